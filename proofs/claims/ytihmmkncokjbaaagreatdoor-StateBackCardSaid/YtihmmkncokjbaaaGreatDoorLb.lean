/- The abstract evaluator of the model and plain laws, part 2: its soundness holds for every program whose table of types is the evaluator's. No further condition. -/
import Derived.Test.YtihmmkncokjbaaaGreatDoorLa
import Derived.Orders
set_option linter.defProp false
set_option linter.unusedSimpArgs false
set_option linter.unusedVariables false
namespace Go.Av
variable [Dr]
def ba(β:List a7)(h:Hp)(b:Nat):Prop:=∃(l:Nat)(cs:List AV)(n:Nat),h[l]? = some cs/\cs≠[]/\β[l]? = some (b,n)
def bm(S:am)(β:List a7)(w:World)(h:Hp):Prop:=β.length=h.length/\∃ω,dH S β w ω h
def kL(S:am)(β:List a7)(h:Hp)(w:World):Prop:=GOKw w/\(∀b,b<gN->¬ba β h b)/\Ck S
structure Left (E:Nat->Prop) (S:am) (β:List a7) (w:World) (S':am) (β':List a7) (w':World) (h':Hp):Prop where
 le:S.le S'
 ext:dm β β'
 wf:Wf S' w'
 gro:Gro w w'
 keep:∀b,b<w.heap.size->¬E b->w'.heap[b]? = w.heap[b]? /\∀o,S' b o=S b o
 heap:bm S' β' w' h'
 owned:∀b,ba β' h' b->E b\/w.heap.size<=b
theorem Left.size{E:Nat->Prop}{S:am}{β:List a7}{w:World}{S':am}{β':List a7}{w':World}{h':Hp}(L:Left E S β w S' β' w' h'):w.heap.size<=w'.heap.size:=L.gro.size
def ol(n0:Nat)(S':am)(β':List a7)(w':World)(h':Hp)(sz:Nat)(v:Value):Prop:=
 ∃a len cap,v= .slice a len cap/\len<=cap/\(a=none->cap=0)/\(len=cap\/∃b off x,a=some ⟨b,off,none⟩/\Row w' b x/\off+cap*sz<=x.size/\n0<=b/\¬ba β' h' b/\
  ∀o,off+len*sz<=o->S' b o=none)
def cv(own:Option Nat)(S:am)(β:List a7)(h:Hp)(w:World)(r:R AV)(en:Ending)(w':World):Prop:=
 match r with
 |.ok rv h'=>∃S' β' v,en= .returned v/\VR S' β' rv v/\Left (ba β h) S β w S' β' w' h'/\∀sz,own=some sz->ol w.heap.size S' β' w' h' sz v
 |.pan pv h'=>∃S' β' v,en= .panicked [{ v,recovered:=false }]/\VR S' β' pv v/\Left (ba β h) S β w S' β' w' h'
 |.fail=>False
def bC(P:Program)(own:FuncId->Option Nat)(call:FuncId->List AV->M AV):Prop:=
 ∀(f:FuncId)(args:List AV)(h:Hp)(S:am)(β:List a7)(w:World)(vs:List Value),call f args h≠.fail->kL S β h w->Wf S w->bm S β w h->aP S β args vs->
  Calls P f vs.toArray w (cv (own f) S β h w (call f args h))/\(P.funcs[f]?).any (fun fn=>fn.body.isSome&&!(fn.name== "runtime.NumGoroutine"))=true
section
variable {c:Entry} {N:Nat} {U:Nat->Prop} {e:Env} {h:Hp} {a:Act} {w:World} {S:am} {β:List a7} {γ:Nat->Value} {lam:Nat->Option Nat} {ω:Nat->Owner}
theorem FR.hown(H:FR c N U e h a w S β γ lam ω){b:Nat}(hb:ba β h b):∃l n,ω b= .heap l/\b<w.heap.size/\β[l]? = some (b,n)/\∀o,S b o=none:=by
 obtain⟨l,cs,n,h1,h2,h3⟩:=hb;obtain⟨b',x,k1,k2,k3,k5⟩:=H.heap.own h1 h2;rw[h3]at k1;cases k1;exact⟨l,n,k3,k2,h3,k5⟩
theorem FR.heapX(H:FR c N U e h a w S β γ lam ω):bm S β w h:=⟨H.hlen,ω,H.heap⟩
open Classical in
theorem FR.left(H:FR c N U e h a w S β γ lam ω){S':am}{β':List a7}{w':World}{h':Hp}(L:Left (ba β h) S β w S' β' w' h'):
  ∃ω',FR c N U e h' a w' S' β' γ lam ω'/\(∀b,w.heap.size<=b->¬ba β' h' b->ω' b= .no):=by
 obtain⟨hlen,ω2,hh⟩:=L.heap;have hnb:∀b,ω b≠.no->(∀l,ω b≠.heap l)->¬ba β h b/\¬ba β' h' b/\b<w.heap.size:=by
  intro b hb hl;have hlt:=(H.mine b hb).2;have h1:¬ba β h b:=fun ho=>by obtain⟨l,_,h3,_⟩:=H.hown ho;exact hl l h3
  refine⟨h1,fun ho=>?_,hlt⟩;rcases L.owned b ho with h2|h2
  ·exact h1 h2
  ·omega
 let ω':Nat->Owner:=fun b=>if ba β' h' b then ω2 b else match ω b with|.heap _=>.no|o=>o
 have hω':∀b,ω b≠.no->(∀l,ω b≠.heap l)->ω' b=ω b:=by
  intro b hb hl;obtain⟨_,h2,_⟩:=hnb b hb hl;show (if ba β' h' b then ω2 b else _)=_;rw[if_neg h2];cases ho:ω b<;>first|rfl|exact absurd ho (hl _)
 have hrow:∀ {b x},Row w b x->ω b≠.no->(∀l,ω b≠.heap l)->Row w' b x/\∀o,S' b o=S b o:=by
  intro b x hr hb hl;obtain⟨h1,_,h3⟩:=hnb b hb hl;exact⟨hr.of_eq (L.keep b h3 h1).1,(L.keep b h3 h1).2⟩
 refine⟨ω',⟨L.wf,H.gro.trans L.gro,fun b hb hE=>?_,am.le_trans H.le L.le,dm.trans H.ext L.ext,hlen,?_,H.tsz,?_,H.grps,?_,?_,?_,H.used⟩,?_⟩
 ·have h1:¬ba β h b:=fun ho=>by
   obtain⟨l,_,h3,_⟩:=H.hown ho;rcases (H.mine b (by rw[h3];simp)).1.low with h|h
   ·exact hE h
   ·omega
  have h2:=L.keep b (Gu hb H.size) h1;have h3:=H.keep b hb hE;exact⟨h2.1.trans h3.1,fun o=>(h2.2 o).trans (h3.2 o)⟩
 ·intro l cs hl hne;have hown:∀b n,β'[l]? = some (b,n)->ω2 b= .heap l->ω' b= .heap l:=fun b n h1 h3=>by
   show (if ba β' h' b then ω2 b else _)=_;rw[FY ⟨l,cs,_,hl,hne,h1⟩];exact h3
  rcases hh l cs hl hne with⟨b,x,h1,h2,h3,h4⟩|⟨b,h1,h3,h4⟩
  ·exact .inl ⟨b,x,h1,h2,hown b _ h1 h3,h4⟩
  ·exact .inr ⟨b,h1,hown b _ h1 h3,h4⟩
 ·intro t ht
  have:=H.slots t ht
  cases hv:(e.get t).v with
  |val av=>rw[hv]at this;exact VR.mono L.le L.ext _ _ this
  |loc B off=>rw[hv]at this;exact this
 ·intro B n hB;obtain⟨k1,k2,k3,b,x,k4,k5,k6,k7,k8⟩:=H.lblk B n hB;have hr:=hrow k5 (by rw[k6];simp) (by rw[k6];simp);refine⟨k1,k2,k3,b,x,k4,hr.1,by rw[hω' b (by rw[k6];simp) (by rw[k6];simp)];exact k6,fun o=>by rw[hr.2];exact k7 o,fun i hi=>?_⟩;obtain⟨v,a',g1,g2,g3,g4⟩:=k8 i hi;exact⟨v,a',g1,g2,VR.mono L.le L.ext _ _ g3,g4⟩
 ·intro g z hg;obtain⟨a',len,cap,g1,g2,g3,g4⟩:=H.free g z hg;refine⟨a',len,cap,g1,g2,g3,g4.imp id ?_⟩;rintro⟨sz,b,off,x,k1,k2,k3,k4,k5,k6⟩;have hr:=hrow k3 (by rw[k5];simp) (by rw[k5];simp);exact⟨sz,b,off,x,k1,k2,hr.1,k4,by rw[hω' b (by rw[k5];simp) (by rw[k5];simp)];exact k5,fun o ho=>by rw[hr.2];exact k6 o ho⟩
 ·intro b hb;by_cases ho:ba β' h' b
  ·have hlt:b<w'.heap.size/\∃l,ω2 b= .heap l:=by
    obtain⟨l,cs,n,h1,h2,h3⟩:=ho;obtain⟨b',x,k1,k2,k3,_⟩:=hh.own h1 h2;rw[h3]at k1;cases k1;exact⟨k2,l,k3⟩
   obtain⟨hlt,l2,hl2⟩:=hlt;refine⟨?_,hlt⟩;rcases L.owned b ho with h1|h1
   ·obtain⟨l,_,h3,_⟩:=H.hown h1;refine (H.mine b (by rw[h3];simp)).1.of_not fun g=>?_;show (if ba β' h' b then ω2 b else _)≠_;rw[FY ho,hl2];simp
   ·exact .inr (He H.size h1)
  ·have hb':(match ω b with|.heap _=>.no|o=>o)≠Owner.no:=by
    have:ω' b=(match ω b with|.heap _=>.no|o=>o):=by
     show (if ba β' h' b then ω2 b else _)=_;rw[if_neg ho]
    rw[<- this];exact hb
   have:ω b≠.no:=by
    intro hn;rw[hn]at hb';exact hb' rfl
   exact⟨(H.mine b this).1.of_eq (hω' b this fun l hl=>by rw[hl]at hb';exact hb' rfl),Gu (H.mine b this).2 L.size⟩
 ·intro b hb hn;show (if ba β' h' b then ω2 b else _)=_;rw[if_neg hn];cases ho:ω b with
  |no=>rfl
  |heap l=>rfl
  |loc B=>have:=(H.mine b (by rw[ho];simp)).2;omega
  |grp g=>have:=(H.mine b (by rw[ho];simp)).2;omega
end
theorem FR.gok{c:Entry}{N:Nat}{U:Nat->Prop}{e:Env}{h:Hp}{a:Act}{w:World}{S:am}{β:List a7}{γ:Nat->Value}{lam:Nat->Option Nat}{ω:Nat->Owner}(H:FR c N U e h a w S β γ lam ω):kL S β h w:=
 ⟨H.gokw,fun b hb ho=>by
  obtain⟨l,_,h3,_⟩:=H.hown ho;rcases (H.mine b (by rw[h3];simp)).1.low with h|h
  ·exact c.gok.2.1 b hb h
  ·have:=c.gok.1.lt;omega,c.gok.2.2.mono H.le⟩
def Out(c:Entry)(h':Hp)(w':World)(S':am)(β':List a7):Prop:=Left c.E c.S c.β c.w S' β' w' h'
theorem FR.out{c:Entry}{N:Nat}{U:Nat->Prop}{e:Env}{h:Hp}{a:Act}{w:World}{S:am}{β:List a7}{γ:Nat->Value}{lam:Nat->Option Nat}{ω:Nat->Owner}(H:FR c N U e h a w S β γ lam ω):Out c h w S β:=
 ⟨H.le,H.ext,H.wf,H.gro,H.keep,H.heapX,fun b hb=>by
  obtain⟨l,_,h3,_⟩:=H.hown hb;exact (H.mine b (by rw[h3];simp)).1.low⟩
def dn(c:Entry)(N:Nat)(U:Nat->Prop)(e:Env)(h:Hp)(a:Act)(w:World):Prop:=∃S β γ lam ω,FR c N U e h a w S β γ lam ω
def UG(U:Nat->Prop)(gid:Nat):Nat->Prop:=fun g=>U g\/(gid<=g/\g<gid+1000)
theorem FR.wider{c:Entry}{N:Nat}{U V:Nat->Prop}{e:Env}{h:Hp}{a:Act}{w:World}{S:am}{β:List a7}{γ:Nat->Value}{lam:Nat->Option Nat}{ω:Nat->Owner}(H:FR c N U e h a w S β γ lam ω)(hUV:∀g,U g->V g):FR c N V e h a w S β γ lam ω:=
 ⟨H.wf,H.gro,H.keep,H.le,H.ext,H.hlen,H.heap,H.tsz,H.slots,H.grps,H.lblk,H.free,H.mine,⟨fun t g hg=>hUV g (H.used.1 t g hg),fun g z hg=>hUV g (H.used.2 g z hg)⟩⟩
theorem dn.wider{c:Entry}{N:Nat}{U V:Nat->Prop}{e:Env}{h:Hp}{a:Act}{w:World}(H:dn c N U e h a w)(hUV:∀g,U g->V g):dn c N V e h a w:=
 let ⟨S,β,γ,lam,ω,F⟩:=H;⟨S,β,γ,lam,ω,F.wider hUV⟩
def ia(c:Entry)(pv:AV)(h':Hp)(v:Value)(w':World):Prop:=∃S' β',Out c h' w' S' β'/\VR S' β' pv v
def After(P:Program)(c:Entry)(N:Nat)(U:Nat->Prop)(r:R Env)(o:Oper)(a:Act)(w:World):Prop:=
 ∀(next:Act->World->Prop)(Q:Exit->Act->World->Prop),(∀e' h' a' w',r= .ok e' h'->dn c N U e' h' a' w'->a'.defers=a.defers->next a' w')->
  (∀pv h' v w',r= .pan pv h'->ia c pv h' v w'->Q (.panic [{ v,recovered:=false }]) a w')->o.wp P a w next Q
omit [Dr]in
theorem put_defers(a:Act)(d:Option Tmp)(v:Value):(a.put d v).defers=a.defers:=by cases d<;>rfl
theorem After.val{P:Program}{c:Entry}{N:Nat}{U:Nat->Prop}{e':Env}{h':Hp}{o:Oper}{a:Act}{w w':World}{v:Value}(hrun:(execOp a.eval o).run P w= .ok (.value v) w')(H:dn c N U e' h' (a.put o.dst v) w'):After P c N U (.ok e' h') o a w:=by
 intro next Q hn _
 unfold Oper.wp;rw[hrun];exact hn e' h' _ _ rfl H (put_defers a o.dst v)
theorem After.skip{P:Program}{c:Entry}{N:Nat}{U:Nat->Prop}{e':Env}{h':Hp}{o:Oper}{a:Act}{w w':World}(hd:o.dst=none)(hrun:(execOp a.eval o).run P w= .ok .skip w')(H:dn c N U e' h' a w'):After P c N U (.ok e' h') o a w:=by
 intro next Q hn _
 unfold Oper.wp;rw[hrun];have:a.put o.dst undef=a:=by rw[hd];rfl
 simp only[Oper.upon];rw[this];exact hn e' h' _ _ rfl H rfl
end Go.Av
namespace Go.Av
variable [Dr]
section
variable {P:Program} {cx:Cx} {c:Entry} {N:Nat} {U:Nat->Prop} {e:Env} {h:Hp} {a:Act} {w:World} {S:am} {β:List a7} {γ:Nat->Value} {lam:Nat->Option Nat} {ω:Nat->Owner} {o:Oper} {gid:Nat}
theorem aK(H:FR c N U e h a w S β γ lam ω)(x:Operand)(ht:∀t,x= .tmp t->t<1000):VR S β (opnd e x) (a.eval x):=by
 cases x with
 |tmp t=>
  have:=H.slots t (ht t rfl)
  simp only[opnd,Env.av,Ent.av,Act.eval];cases hv:(e.get t).v with
  |val av=>rw[hv]at this;exact this
  |loc B off=>simp[VR]
 |const v=>exact Cu S β v
 | global g=>
  simp only[opnd,Act.eval];cases hg:tk g with
  |none=>simp only[VR]
  |some cs=>
   obtain⟨vs,h1,h2⟩:=c.gok.2.2 g cs hg;simp only[VR];exact⟨g,0,vs,rfl,aP.mono H.le (dm.nil β) _ _ h1,h2.mono H.le⟩
 |func f=>simp only[opnd,VR,Act.eval];exact⟨[],[],rfl,by simp[aP],by simp[aP]⟩
theorem iZ(H:FR c N U e h a w S β γ lam ω):(xs:List Operand)->(∀x∈xs,∀t,x= .tmp t->t<1000)->aP S β (xs.map (opnd e)) (xs.map a.eval)
 |[],_=>by simp[aP]
 |x:: xs,ht=>by
  simp only[GL,aP];exact⟨_,_,rfl,aK H x (ht x (by simp)),iZ H xs fun y hy=>ht y (by simp[hy])⟩
theorem fQ(H:FR c N U e h a w S β γ lam ω)(x:Option Operand)(ht:∀y,x=some y->∀t,y= .tmp t->t<1000):fq S β (x.map (opnd e)) (x.map a.eval):=by
 cases x with
 |none=>rfl
 |some y=>exact⟨_,rfl,aK H y (ht y rfl)⟩
theorem Fy(H:dn c N U e h a w):dn c N (UG U gid) e h a w:=H.wider fun _ h=>.inl h
theorem cL(H:FR c N U e h a w S β γ lam ω)(hd:∀t,o.dst=some t->t<N){r:Option AV}{m:Sem Value}(hrun:execOp a.eval o=(do pure (.value (<- m))))(hp:∀x,r=some x->mC P w S β m x)(hr:(ae (ah r) fun v=>M.pure (e.upd o.dst (.ofV v))) h≠.fail):After P c N (UG U gid) ((ae (ah r) fun v=>M.pure (e.upd o.dst (.ofV v))) h) o a w:=by
 cases r with
 |none=>exact absurd rfl hr
 |some x=>
  obtain⟨v,h1,h2⟩:=hp x rfl;exact After.val (v:=v) (w':=w) (by rw[hrun];simp only[Sem.run_bind,h1,Result.andThen_ok,Sem.run_pure]) (Fy ⟨S,β,γ,lam,ω,H.setV hd h2⟩)
theorem s8(H:FR c N U e h a w S β γ lam ω)(hd:∀t,o.dst=some t->t<N){t:Nat}(ht:t<1000)(hrun:(execOp a.eval o).run P w= .ok (.value (a.tmps.getD t undef)) w):
  After P c N (UG U gid) (.ok (e.upd o.dst { ent:=e.get t }) h) o a w:=
 After.val hrun (Fy ⟨S,β,γ,lam,ω,H.set hd (H.slots t ht) (fun g z hg hz=>H.grps t g z ht hg hz) (fun g hg=>H.used.1 t g hg)⟩)
theorem tB(H:FR c N U e h a w S β γ lam ω)(hd:∀t,o.dst=some t->t<N)(hU:∀g,gid<=g->g<gid+1000->¬U g){x:Operand}(hx:o.op= .move x\/o.op= .assign x)(ht:∀t,x= .tmp t->t<1000):
  After P c N (UG U gid) (aX cx e gid o h) o a w:=by
 have hrun:(execOp a.eval o).run P w= .ok (.value (a.eval x)) w:=by rcases hx with hx|hx<;>simp[execOp,hx]
 have hop:aX cx e gid o=aG e o.dst (e8 (bd cx.ann.hb o.dst) e gid x):=by unfold aX dG;rcases hx with hx|hx<;>rw[hx]
 rw[hop];unfold e8;cases x with
 |tmp t=>exact s8 H hd (ht t rfl) hrun
 | const v=>
  simp only;cases hn:aN (.const v)with
  | true=>
   have hv:v= .slice none 0 0:=by
    unfold aN at hn;split at hn
    ·rename_i hq;simpa using hq
    ·simp at hn
   subst hv;simp only[FW];cases htold:bd cx.ann.hb o.dst with
   |true=>exact After.val hrun (Fy ⟨S,β,γ,lam,ω,H.setV hd (by simp only[VR];rfl)⟩)
   |false=>
   simp only[F0];obtain⟨ω',F⟩:=H.own (v:=.slice none 0 0) (r:=.sl []) (z:=none) hd (by simp only[VR];exact⟨none,0,rfl,FZ _,fun _=>rfl,fun q h=>by cases h⟩) hU (.inl ⟨none,0,rfl,fun _=>rfl⟩);exact After.val hrun ⟨S,β,_,lam,ω',F⟩
  |false=>
   simp only[F0];exact After.val hrun (Fy ⟨S,β,γ,lam,ω,H.setV hd (aK H _ (fun t h=>by cases h))⟩)
 |global g=>
  exact After.val hrun (Fy ⟨S,β,γ,lam,ω,H.setV hd (aK H _ (fun t h=>by cases h))⟩)
 |func f=>
  exact After.val hrun (Fy ⟨S,β,γ,lam,ω,H.setV hd (aK H _ (fun t h=>by cases h))⟩)
omit [Dr]in
theorem aP.allR{S:am}{β:List a7}{cs:List AV}{vs:List Value}(h:aP S β cs vs):∀i,i<cs.length->∃v,vs[i]? = some v/\VR S β (nth cs i) v:=by
 intro i hi;obtain⟨v,h1,h2⟩:=h.get (Gf hi);refine⟨v,h1,?_⟩;unfold nth;rw[Gv,Gf hi];exact h2
theorem jx(H:FR c N U e h a w S β γ lam ω):(ps:List (Nat×Operand))->(∀p∈ps,∀t,p.2= .tmp t->t<1000)->eS S β (ps.map fun p=>(p.1,opnd e p.2)) (ps.map fun p=>(p.1,a.eval p.2))
 |[],_=>rfl
 |(i,x):: ps,ht=>by
  simp only[GL,eS];exact⟨_,_,rfl,aK H x (ht (i,x) (by simp)),jx H ps fun q hq=>ht q (by simp[hq])⟩
theorem mG(hT:TOK P cx.T)(H:FR c N U e h a w S β γ lam ω)(hd:∀t,o.dst=some t->t<N)(hU:∀g,gid<=g->g<gid+1000->¬U g){t n:Nat}{ps:Array (Nat×Operand)}(ho:o.op= .buildSlice t n ps)(ht:∀p∈ps.toList,∀t,p.2= .tmp t->t<1000)(hha:bd cx.ann.ha o.dst=false)(hr:aX cx e gid o h≠.fail):After P c N (UG U gid) (aX cx e gid o h) o a w:=by
 unfold aX dG at hr |-;rw[ho]at hr |-;simp only[hha,F0]at hr |-;cases hb:bp cx.T t n (ps.toList.map fun p=>(p.1,opnd e p.2))with
 |none=>rw[hb]at hr;exact absurd rfl hr
 | some r=>
  obtain⟨es,x,el,sz,rfl,hlen,hrow,hrun⟩:=mF (w:=w) (qs:=ps.map fun p=>(p.1,a.eval p.2)) hT hb (by simpa using jx H ps.toList ht);have H2:=H.allocS x el x.size;have hv:VR (S.withRowTo w.heap.size x.size x) β (.sl es) (.slice (some ⟨w.heap.size,0,none⟩) n n):=by
   simp only[VR];refine⟨_,n,by rw[hlen],by omega,(fun h=>by cases h),fun q hq=>?_⟩;simp only[FU]at hq;subst hq;refine⟨fun _=>rfl,sz,hrow.at (fun k o v hv=>?_) (fun o y hy=>?_)⟩
   ·unfold am.withRowTo;split
    ·rename_i hk;subst hk;rw[H.wf.none (FZ _)]at hv;simp at hv
    ·exact hv
   ·unfold am.withRowTo;rw[FY rfl,FY]
    ·exact hy
    ·rcases Gd o x.size with h|h
     ·exact h
     ·rw[Gz h]at hy;simp at hy
  have hex:(execOp a.eval o).run P w= .ok (.value (.slice (some ⟨w.heap.size,0,none⟩) n n)) (w.alloc (.cells x el)):=by
   simp only[execOp,ho,Sem.run_bind,hrun,Result.andThen_ok,Sem.run_pure]
  simp only[aG,ah,ae,M.pure];cases hno:bd cx.ann.no o.dst with
  |true=>
   simp only[FW];exact After.val hex (Fy ⟨_,_,_,_,_,H2.setV hd hv⟩)
  |false=>
   simp only[F0];obtain⟨ω',F⟩:=H2.own (z:=none) hd hv hU (.inl ⟨_,_,rfl,fun h=>by cases h⟩);exact After.val hex ⟨_,_,_,_,ω',F⟩
theorem oO(hT:TOK P cx.T)(H:FR c N U e h a w S β γ lam ω)(hd:∀t,o.dst=some t->t<N)(hU:∀g,gid<=g->g<gid+1000->¬U g){t:Nat}{l k:Operand}(ho:o.op= .makeSlice t l k)(hl:∀t,l= .tmp t->t<1000)(hk:∀t,k= .tmp t->t<1000)(hha:bd cx.ann.ha o.dst=false)(hr:aX cx e gid o h≠.fail):After P c N (UG U gid) (aX cx e gid o h) o a w:=by
 unfold aX dG at hr |-;rw[ho]at hr |-;simp only[hha,F0]at hr |-;cases hb:iu cx.T t (opnd e l) (opnd e k)with
 |none=>rw[hb]at hr;exact absurd rfl hr
 | some r=>
  obtain⟨es,x,el,sz,cap,rfl,hes,hlen,hxs,hrow,hrun⟩:=oN (w:=w) hT hb (aK H l hl) (aK H k hk);have H2:=H.allocS x el (es.length*sz);have hle:es.length*sz<=cap*sz:=Gc _ hlen;have hv:VR (S.withRowTo w.heap.size (es.length*sz) x) β (.sl es) (.slice (some ⟨w.heap.size,0,none⟩) es.length cap):=by
   simp only[VR];refine⟨_,cap,rfl,hlen,(fun h=>by cases h),fun q hq=>?_⟩;simp only[FU]at hq;subst hq;refine⟨fun _=>rfl,sz,.of_get fun i y hy=>?_⟩;obtain⟨v,v1,v2,v3⟩:=hrow i y hy;have hi:i<es.length:=by
    rcases Gd i es.length with h|h
    ·exact h
    ·rw[F8 h]at hy;simp at hy
   have hm:(i+1)*sz<=es.length*sz:=Gc _ hi;rw[Gy]at hm;refine⟨v,VR.mono (fun k o v hv=>?_) (dm.refl β) _ _ v1,v2,fun j u hu=>?_⟩
   ·unfold am.withRowTo;split
    ·rename_i hk;subst hk;rw[H.wf.none (FZ _)]at hv;simp at hv
    ·exact hv
   ·have hj:j<sz:=by
     rcases Gd j v.cells.toList.length with h|h
     ·simp[v2]at h;exact h
     ·rw[F8 h]at hu;simp at hu
    unfold am.withRowTo;rw[FY rfl,FY (Gu (show 0+i*sz+j<i*sz+1*sz by omega) hm),GP];exact v3 j u (by simpa using hu)
  have hωn:ω w.heap.size= .no:=by
   cases hoo:ω w.heap.size with
   |no=>rfl
   |_=>have:=(H.mine w.heap.size (by rw[hoo];simp)).2;omega
  obtain⟨ω',F⟩:=H2.own (z:=bV cx.T t) hd hv hU (.inr ⟨es.length,cap,sz,w.heap.size,0,x,rfl,hlen,hes,FD w x el,by omega,hωn,H.size,fun o' ho'=>by
   unfold am.withRowTo;rw[FY rfl,if_neg (by omega)]⟩)
  refine After.val (v:=.slice (some ⟨w.heap.size,0,none⟩) es.length cap) (w':=w.alloc (.cells x el)) ?_ ⟨_,_,_,_,ω',F⟩;simp only[execOp,ho,Sem.run_bind,hrun,Result.andThen_ok,Sem.run_pure]
theorem xM(hT:TOK P cx.T)(H:FR c N U e h a w S β γ lam ω)(hd:∀t,o.dst=some t->t<N)(hU:∀g,gid<=g->g<gid+1000->¬U g){t:Nat}{x:Operand}{lo hi mx:Option Operand}(ho:o.op= .slice t x lo hi mx)(hx:∀t,x= .tmp t->t<1000)(hlo:∀y,lo=some y->∀t,y= .tmp t->t<1000)(hhi:∀y,hi=some y->∀t,y= .tmp t->t<1000)(hmx:∀y,mx=some y->∀t,y= .tmp t->t<1000)(hso:bd cx.ann.so o.dst=false)(hr:aX cx e gid o h≠.fail):After P c N (UG U gid) (aX cx e gid o h) o a w:=by
 unfold aX dG at hr |-;rw[ho]at hr |-;simp only[hso,F0]at hr |-;cases hb:(bif bd cx.ann.hb o.dst then sI cx.T t (opnd e x) (lo.map (opnd e)) (hi.map (opnd e)) (mx.map (opnd e))else eb cx.T t (opnd e x) (lo.map (opnd e)) (hi.map (opnd e)) (mx.map (opnd e)))with
 |none=>rw[hb]at hr;exact absurd rfl hr
 | some r=>
  have hboth:∃v,(Instr.sliceAt t (a.eval x) (lo.map a.eval) (hi.map a.eval) (mx.map a.eval)).run P w= .ok v w/\VR S β r v/\((mx.map (opnd e)).isSome=true->(∃a n,v= .slice a n n)/\∃es,r= .sl es):=by
   cases htold:bd cx.ann.hb o.dst with
   |true=>rw[htold]at hb;exact ve (P:=P) (w:=w) hT hb (aK H x hx) (fQ H lo hlo) (fQ H hi hhi) (fQ H mx hmx)
   |false=>rw[htold]at hb;exact xL (P:=P) (w:=w) hT hb (aK H x hx) (fQ H lo hlo) (fQ H hi hhi) (fQ H mx hmx)
  obtain⟨v,hrun,hv,hown⟩:=hboth;have hrun':(execOp a.eval o).run P w= .ok (.value v) w:=by simp only[execOp,ho,Sem.run_bind,hrun,Result.andThen_ok,Sem.run_pure]
  cases mx with
  |none=>exact After.val hrun' (Fy ⟨S,β,γ,lam,ω,H.setV hd hv⟩)
  | some m=>
   obtain⟨⟨ad,n,rfl⟩,es,rfl⟩:=hown rfl;have hn:ad=none->n=0:=by
    rintro rfl;have hv:=hv;simp only[VR]at hv;obtain⟨_,_,he,_,h2,_⟩:=hv;simp only[Value.slice.injEq]at he;obtain⟨rfl,_,rfl⟩:=he;exact h2 rfl
   obtain⟨ω',F⟩:=H.own (z:=none) hd hv hU (.inl ⟨ad,n,rfl,hn⟩);exact After.val hrun' ⟨_,_,_,_,ω',F⟩
end
end Go.Av
namespace Go.Av
variable [Dr]
section
variable {P:Program} {cx:Cx} {c:Entry} {N:Nat} {U:Nat->Prop} {e:Env} {h:Hp} {a:Act} {w:World} {S:am} {β:List a7} {γ:Nat->Value} {lam:Nat->Option Nat} {ω:Nat->Owner} {o:Oper} {gid:Nat}
theorem FR.locals(H:FR c N U e h a w S β γ lam ω){B off n:Nat}(hin:gW e B off n=true):∃b x m,aW e.lb B=some m/\off+n<=m/\lam B=some b/\Row w b x/\m<=x.size/\
  ∀i,i<n->∃v a',x[off+i]? = some v/\(e.get (B+off+i)).v= .val a'/\VR S β a' v/\∀g z,(e.get (B+off+i)).g=some g->aA e.al g=some z->v=γ g:=by
 unfold gW at hin;split at hin
 ·rename_i m hm;have hle:off+n<=m:=by simp at hin;exact hin.1
  obtain⟨_,_,_,b,x,h1,h2,h3,h4,h5⟩:=H.lblk B m hm;have hms:m<=x.size:=by
   rcases GF m with h0|h0
   ·omega
   ·obtain⟨v,_,hv,_⟩:=h5 (m-1) (by omega);rcases Gd (m-1) x.size with h|h
    ·omega
    ·rw[Gz h]at hv;simp at hv
  refine⟨b,x,m,hm,hle,h1,h2,hms,fun i hi=>?_⟩
  have:=h5 (off+i) (by omega)
  rw[<- Nat.add_assoc]at this;exact this
 ·simp at hin
omit [Dr]in
theorem lF{S:am}{β:List a7}{e:Env}{B:Nat}{f:Nat->Value}:(n:Nat)->(∀i,i<n->VR S β (e.av (B+i)) (f i))->aP S β (iM e B n) ((List.range n).map f)
 |0,_=>by simp[iM,aP]
 |n+1,hh=>by
  simp only[iM,List.range_succ,Iq,GL,List.map_nil];refine aP.append (lF n fun i hi=>hh i (by omega)) ?_;simp only[aP];exact⟨_,_,rfl,hh n (by omega),rfl⟩
omit [Dr]in
theorem ke(hT:TOK P cx.T){t:Nat}{ti:TI}(ht:cx.T t=some ti){b off:Nat}{x:Array Value}(hr:Row w b x)(f:Nat->Value)(hf:∀i,i<ti.size->x[off+i]? = some (f i)):
  (ti.agg=true->(loadVar t ⟨b,off,none⟩).run P w= .ok (.agg ((List.range ti.size).map f).toArray) w)/\(ti.agg=false->ti.size=1->(loadVar t ⟨b,off,none⟩).run P w= .ok (f 0) w):=by
 obtain⟨ii,d,_,hii,hd,_,_,hsz,_,_,hag,_⟩:=(hT.get ht).ex;refine⟨fun hagg=>?_,fun hagg hone=>?_⟩
 ·have:=run_loadCells (P:=P) w ⟨b,off,none⟩ ti.size f (fun j hj=>by rw[addr_add,hr.cell];exact hf j hj)
  simp[loadVar,d8 hd,hag,hagg,run_sizeOf hii,hsz,this]
 ·have h0:=hf 0 (by omega);rw[<- hr.cell]at h0;simp only[GX]at h0;simp[loadVar,d8 hd,hag,hagg,h0]
omit [Dr]in
theorem xe{T:TT}{t:Nat}{x:AV}{h:Hp}(hx:∀l off,x≠.hp l off):eK T t x h=match ak T t x with|some v=>.ok v h|none=>.fail:=by
 unfold eK;cases x<;>first|rfl|exact absurd rfl (hx _ _)
theorem tx(hT:TOK P cx.T)(H:FR c N U e h a w S β γ lam ω)(hd:∀t,o.dst=some t->t<N){t p:Nat}(ho:o.op= .load t (.tmp p))(hx:p<1000)(hr:aG e o.dst (cK cx e o.dst t p) h≠.fail):
  After P c N (UG U gid) (aG e o.dst (cK cx e o.dst t p) h) o a w:=by
 have hp:=H.slots p hx;unfold cK at hr |-;cases hv:(e.get p).v with
 | loc B off=>
  rw[hv]at hr hp;simp only at hr |-;simp only[dA]at hp;obtain⟨b,hlam,hpv⟩:=hp;cases ht:cx.T t with
  |none=>rw[ht]at hr;exact absurd rfl hr
  | some ti=>
   rw[ht]at hr;simp only at hr |-;cases hin:gW e B off ti.size with
   |false=>rw[hin]at hr;exact absurd rfl hr
   | true=>
    rw[hin]at hr;simp only[FW]at hr |-;obtain⟨b',x,m,hm,hle,hlam',hrow,hms,hcells⟩:=H.locals hin;rw[hlam]at hlam';cases hlam';let f:Nat->Value:=fun i=>(x[off+i]?).getD undef;have hf:∀i,i<ti.size->x[off+i]? = some (f i):=fun i hi=>by
     obtain⟨v,_,hv',_⟩:=hcells i hi;show _=some ((x[off+i]?).getD undef);rw[hv'];rfl
    have hload:=ke hT ht hrow f hf;have hexec:∀v,(loadVar t ⟨b,off,none⟩).run P w= .ok v w->(execOp a.eval o).run P w= .ok (.value v) w:=fun v hv'=>by
     simp only[execOp,ho,Act.eval,hpv,Instr.loadAt,Instr.sureAddr,Sem.run_bind,Sem.run_pure,Result.andThen_ok,hv']
    cases hag:ti.agg with
    |true=>
     simp only[FW];refine After.val (hexec _ (hload.1 hag)) (Fy ⟨S,β,γ,lam,ω,H.setV hd ?_⟩);simp only[VR];refine⟨_,rfl,lF ti.size fun i hi=>?_⟩;obtain⟨v,a',g1,g2,g3,_⟩:=hcells i hi;have:f i=v:=by show (x[off+i]?).getD undef=v;rw[g1];rfl
     rw[this];simp only[Env.av,Ent.av,g2];exact g3
    | false=>
     rw[hag]at hr;simp only[F0]at hr |-;cases hone:decide (ti.size=1)with
     |false=>rw[hone]at hr;exact absurd rfl hr
     |true=>
      have hone':ti.size=1:=by simpa using hone
      simp only[FW];obtain⟨v,a',g1,g2,g3,g4⟩:=hcells 0 (by omega);simp only[GX]at g1 g2 g4;have hfv:f 0=v:=by show (x[off+0]?).getD undef=v;rw[GX,g1];rfl
      refine After.val (hexec _ (hfv▸hload.2 hag hone')) (Fy ⟨S,β,γ,lam,ω,H.set hd ?_ (fun g z hg hz=>g4 g z hg hz) (fun g hg=>H.used.1 _ g hg)⟩);rw[g2];exact g3
 | val av =>
  rw[hv]at hr hp;simp only at hr |-;simp only[dA]at hp;have hexec:∀v,(Instr.loadAt t (a.tmps.getD p undef)).run P w= .ok v w->(execOp a.eval o).run P w= .ok (.value v) w:=fun v hv'=>by
   simp only[execOp,ho,Act.eval,Sem.run_bind,hv',Result.andThen_ok,Sem.run_pure]
  have hbyval:∀r,ak cx.T t av=some r->After P c N (UG U gid) (.ok (e.upd o.dst (.ofV r)) h) o a w:=fun r hr'=>by
   obtain⟨v,h1,h2⟩:=tw hT H.wf hr' hp;exact After.val (hexec v h1) (Fy ⟨S,β,γ,lam,ω,H.setV hd h2⟩)
  cases hmem:bd cx.ann.hl o.dst with
  |false=>
   rw[hmem]at hr;simp only[F0]at hr |-;cases hl:ak cx.T t av with
   |none=>rw[hl]at hr;exact absurd rfl hr
   |some r=>exact hbyval r hl
  | true =>
   rw[hmem]at hr;simp only[FW]at hr |-;simp only[aG,ae]at hr |-;by_cases hav:∃l off,av= .hp l off
   ·obtain⟨l,off,rfl⟩:=hav;unfold eK at hr |-;simp only at hr |-;simp only[VR]at hp;obtain⟨⟨b,nb⟩,hb,hb0,hpv⟩:=hp;cases ht:cx.T t with
    |none=>rw[ht]at hr;exact absurd rfl hr
    | some ti=>
     cases hcs:h[l]? with
     |none=>rw[ht,hcs]at hr;exact absurd rfl hr
     | some cs=>
      rw[ht,hcs]at hr;simp only at hr |-;obtain⟨ii,d,_,hii,hdd,_,_,hsz,_,_,hagd,_⟩:=(hT.get ht).ex;by_cases hne:cs=[]
      ·subst hne;cases hag:ti.agg with
       | true=>
        rw[hag]at hr;simp only[FW,GM]at hr |-;by_cases hz:off+ti.size<=0
        ·rw[FY hz]at hr |-;have hz0:ti.size=0:=by omega
         have hl0:(loadVar t ⟨b,off,none⟩).run P w= .ok (.agg #[]) w:=by
          simp[loadVar,d8 hdd,hagd,hag,run_sizeOf hii,hsz,hz0,loadCells,loadCellsFrom]
         refine After.val (v:=.agg #[]) (hexec _ (by rw[hpv];simp only[Instr.loadAt,Instr.sureAddr,Sem.run_bind,Sem.run_pure,Result.andThen_ok,hl0])) (Fy ⟨S,β,γ,lam,ω,H.setV hd ?_⟩);simp only[VR];exact⟨[],by simp,by simp[aP]⟩
        ·rw[if_neg hz]at hr;exact absurd rfl hr
       |false=>rw[hag,List.getElem?_nil]at hr;exact absurd rfl hr
      ·obtain⟨y,k1,k2,k3,k4,k5⟩:=H.heap.cells hcs hne hb hb0;rw[hb]at k1;cases k1;have hcell:∀j v,(y.toList.take cs.length)[j]? = some v->w.cell? ⟨b,0+j,none⟩=some v:=fun j v hj=>by
        rw[GP,k2.cell];rw[Gg]at hj;split at hj
        ·simpa using hj
        ·simp at hj
       have hvd:=k4.drop off;have hcd:∀j v,((y.toList.take cs.length).drop off)[j]? = some v->w.cell? ⟨b,off+j,none⟩=some v:=fun j v hj=>by
        rw[GO]at hj
        have:=hcell _ _ hj
        rwa [GP]at this
       cases hag:ti.agg with
       | true=>
        rw[hag]at hr;simp only[FW]at hr |-;by_cases hz:off+ti.size<=cs.length
        ·rw[FY hz]at hr |-;obtain⟨v,h1,h2⟩:=ir hT ht hvd hcd (r:=.agg ((cs.drop off).take ti.size)) (by rw[hag];simp only[FW];rw[FY (by simp;omega)]);exact After.val (hexec v (by rw[hpv];simp only[Instr.loadAt,Instr.sureAddr,Sem.run_bind,Sem.run_pure,Result.andThen_ok,h1])) (Fy ⟨S,β,γ,lam,ω,H.setV hd h2⟩)
        ·rw[if_neg hz]at hr;exact absurd rfl hr
       | false=>
        rw[hag]at hr;simp only[F0]at hr |-;cases hg:cs[off]? with
        |none=>rw[hg]at hr;exact absurd rfl hr
        |some r=>
         simp only;obtain⟨v,h1,h2⟩:=ir hT ht hvd hcd (r:=r) (by rw[hag];simp only[F0,List.head?_drop];exact hg);exact After.val (hexec v (by rw[hpv];simp only[Instr.loadAt,Instr.sureAddr,Sem.run_bind,Sem.run_pure,Result.andThen_ok,h1])) (Fy ⟨S,β,γ,lam,ω,H.setV hd h2⟩)
   ·rw[xe (fun l off hh=>hav ⟨l,off,hh⟩)]at hr |-;cases hl:ak cx.T t av with
    |none=>rw[hl]at hr;exact absurd rfl hr
    |some r=>exact hbyval r hl
end
end Go.Av
namespace Go.Av
variable [Dr]
section
variable {P:Program} {cx:Cx} {c:Entry} {N:Nat} {U:Nat->Prop} {e:Env} {h:Hp} {a:Act} {w:World} {S:am} {β:List a7} {γ:Nat->Value} {lam:Nat->Option Nat} {ω:Nat->Owner} {o:Oper} {gid:Nat}
omit [Dr]in
theorem eQ{x:AV}{v:Value}(h:be x=true)(hv:VR S β x v):v.cells= #[v]/\v.oneCell'=true:=by
 have h1:bS x=some 1:=by cases x<;>simp_all[be,bS]
 have h2:bq 1 x=true:=by
  unfold bq;rw[h1];cases x<;>simp_all[be,ab]
 obtain⟨g1,g2,g3⟩:=ej h2 hv;have hc:v.cells= #[v]:=by
  cases x<;>simp[be]at h<;>simp only[VR]at hv
  case bool=>subst hv;rfl
  case int=>subst hv;rfl
  case nilp=>subst hv;rfl
  case nilf=>subst hv;rfl
  case nili=>subst hv;rfl
  case hn=>subst hv;rfl
  case str=>obtain⟨_,rfl,_⟩:=hv;rfl
  case sl=>obtain⟨_,_,rfl,_⟩:=hv;rfl
  case ip=>obtain⟨_,_,_,rfl,_⟩:=hv;rfl
  case hp=>obtain⟨_,_,_,rfl⟩:=hv;rfl
  case mp=>obtain⟨_,_,_,rfl⟩:=hv;rfl
  case nilm=>subst hv;rfl
  case hs=>rcases hv with⟨_,_,_,_,rfl,_⟩|⟨_,_,rfl⟩<;>rfl
  case fn=>obtain⟨_,_,rfl,_⟩:=hv;rfl
  case iface=>obtain⟨_,rfl,_⟩:=hv;rfl
 exact⟨hc,g3 v (by rw[hc];simp)⟩
omit [Dr]in
theorem ko(hT:TOK P cx.T){t:Nat}{ti:TI}(ht:cx.T t=some ti){b off:Nat}{x:Array Value}{v:Value}(hr:Row w b x)(hs:v.cells.size=ti.size)(hone:∀y∈v.cells.toList,y.oneCell'=true)(hle:off+ti.size<=x.size):
  (Instr.storeAt t (.pointer (some ⟨b,off,none⟩)) v).run P w= .ok () (w.setRow b (x.toList.take off++v.cells.toList++x.toList.drop (off+v.cells.toList.length)).toArray):=by
 obtain⟨ii,d,_,hii,hd,_,_,hsz,_⟩:=(hT.get ht).ex;obtain⟨te,hrow⟩:=hr;have hst:=run_storeCells_at P b off te v.cells.toList 0 x w hrow (by simp[hs];omega) hone;simp only[GX]at hst;have hne:¬(v.cells.size≠ii.size):=by rw[hs,hsz];simp
 simp only[Instr.storeAt,Instr.sureAddr,Sem.run_bind,Sem.run_pure,Result.andThen_ok,storeVar,run_sizeOf hii,hne,Gl,hst]
omit [Dr]in
theorem jj{n:Nat}{x:AV}{cs:List AV}{v:Value}(h:fJ n x=some cs)(hv:VR S β x v):cs=ab x/\v.cells.size=n/\aP S β cs v.cells.toList/\∀y∈v.cells.toList,y.oneCell'=true:=by
 unfold fJ at h;cases hk:bq n x with
 |false=>rw[hk]at h;simp at h
 |true=>
  rw[hk]at h;simp only[FW,FU]at h;subst h;obtain⟨h1,h2,h3⟩:=ej hk hv;exact⟨rfl,h1,h2,h3⟩
omit [Dr]in
theorem qp{x:AV}(h:Bl x=true):x= .hn:=by cases x<;>simp_all[Bl]
theorem xP(hT:TOK P cx.T)(H:FR c N U e h a w S β γ lam ω)(_hN:∀t,t<1000->True)(hU:∀g,gid<=g->g<gid+1000->¬U g){t:Nat}{x y:Operand}(ho:o.op= .store t x y)(hx:∀t,x= .tmp t->t<1000)(hy:∀t,y= .tmp t->t<1000)(hpN:∀p,x= .tmp p->uF (bv cx.ann.kinds p .L)=true->p<N)(hr:aX cx e gid o h≠.fail):After P c N (UG U gid) (aX cx e gid o h) o a w:=by
 unfold aX dG at hr |-;rw[ho]at hr |-;cases x<;>simp only at hr |- <;> (try exact absurd rfl hr);rename_i p;cases hdst:o.dst with
 |some d=>rw[hdst]at hr;exact absurd rfl hr
 |none=>
 rw[hdst]at hr;simp only at hr |-;cases hlw:dw cx.ann.lw p&&!(eZ (e.get p))with
 |true=>rw[hlw]at hr;exact absurd rfl hr
 |false=>
 rw[hlw]at hr;simp only[F0]at hr |-;have hp:=H.slots p (hx p rfl);have hyv:=aK H y hy;have hexec:∀w',(Instr.storeAt t (a.tmps.getD p undef) (a.eval y)).run P w= .ok () w'->(execOp a.eval o).run P w= .ok .skip w':=fun w' hh=>by
  have he:a.eval (.tmp p)=a.tmps.getD p undef:=rfl;simp only[execOp,ho,he,Sem.run_bind,hh,Result.andThen_ok,Sem.run_pure]
 unfold dN at hr |-;cases hv:(e.get p).v with
 | loc B off=>
  rw[hv]at hr hp;simp only at hr |-;simp only[dA]at hp;obtain⟨b,hlam,hpv⟩:=hp;cases ht:cx.T t with
  |none=>rw[ht]at hr;exact absurd rfl hr
  | some ti =>
   rw[ht]at hr;simp only at hr |-;cases hin:gW e B off ti.size with
   |false=>rw[hin]at hr;exact absurd rfl hr
   | true =>
    rw[hin]at hr;simp only[FW]at hr |-;obtain⟨b',z,m,hm,hle,hlam',hrow,hms,hcells⟩:=H.locals hin;rw[hlam]at hlam';cases hlam';have hst:∀v,a.eval y=v->v.cells.size=ti.size->(∀q∈v.cells.toList,q.oneCell'=true)->
      (execOp a.eval o).run P w= .ok .skip (w.setRow b (z.toList.take off++v.cells.toList++z.toList.drop (off+v.cells.toList.length)).toArray):=fun v hv' h1 h2=>
     hexec _ (by rw[hpv,hv'];exact ko hT ht hrow h1 h2 (by omega))
    cases hS:uF (bv cx.ann.kinds p .L)with
    | true=>
     rw[hS]at hr;simp only[FW]at hr |-;cases hcond:iy e B off p ti.size with
     |false=>rw[hcond]at hr;exact absurd rfl hr
     | true=>
      rw[hcond]at hr;simp only[FW]at hr |-;unfold iy at hcond;rw[hm]at hcond;simp only[FV]at hcond;obtain⟨⟨h1,h2⟩,h3⟩:=hcond;have h1:=F6 h1;have h3:=F6 h3;subst h1 h3;unfold bT at hr |-;cases hcs:fJ ti.size (opnd e y)with
      |none=>rw[hcs]at hr;exact absurd rfl hr
      |some cs=>
       obtain⟨k1,k2,k3,k4⟩:=jj hcs hyv;obtain⟨S',ω',_,F⟩:=H.storeS (u:=⟨.val (.tup []),none⟩) (hpN p rfl hS) hm (by simpa using k2) hlam hrow k3 hpv;refine After.skip hdst (hst _ rfl k2 k4) ?_;have F2:=F.wider (V:=UG U gid) (fun _ h=>.inl h);have hacs:ab (.agg cs)=cs:=rfl;simp only[HY,GY,GP]at F2 |-;exact⟨_,_,_,_,_,F2⟩
    | false =>
     rw[hS]at hr;simp only[F0]at hr |-;cases hag:ti.agg with
     | true =>
      rw[hag]at hr;simp only[FW]at hr |-;unfold aU at hr |-;cases hcs:fJ ti.size (opnd e y)with
      |none=>rw[hcs]at hr;exact absurd rfl hr
      | some cs=>
       rw[hcs]at hr;simp only at hr |-;cases hnil:fP cs (dC cx.ann.nils p) ti.size with
       |false=>rw[hnil]at hr;exact absurd rfl hr
       | true=>
        obtain⟨k1,k2,k3,k4⟩:=jj hcs hyv;have hnb:∀i∈dC cx.ann.nils p,i<ti.size/\nth cs i= .hn:=fun i hi=>by
         unfold fP at hnil;rw[F9]at hnil
         have:=hnil i hi
         rw[FV]at this;exact⟨by simpa using this.1,qp this.2⟩
        have hm1000:m<1000:=(H.lblk B m hm).2.2.1;have hcsl:cs.length=ti.size:=by rw[<- k3.length];simpa using k2
        have F:=H.storeL (u:=⟨.val (.tup []),none⟩) (L:=gz (B+off) cs (dC cx.ann.nils p) gid ti.size) (A:=kA (dC cx.ann.nils p) gid) (vs:=(a.eval y).cells.toList) (ent:=fb cs (dC cx.ann.nils p) gid)
         hU (gA (fun i hi=>(hnb i hi).1) (by omega)) hm hle (by simpa using k2) hlam hrow (fun t'=>lU _ _ _ _ _ _ _) (fun i hi=>by
          obtain⟨v,v1,v2⟩:=k3.allR i (by omega);unfold fb;cases hmem:dw (dC cx.ann.nils p) i with
          | true=>
           have hn:=(hnb i ((ey _ _).1 hmem)).2;rw[hn]at v2;simp only[VR]at v2;subst v2;refine⟨_,.sl [],v1,rfl,?_,fun g z hg _=>?_,fun g hg=>?_⟩
           ·simp only[VR];exact⟨none,0,rfl,FZ _,fun _=>rfl,fun q hq=>by cases hq⟩
           ·simp only[FW,FU]at hg;unfold γN;rw[FY (by omega)]
           ·simp only[FW,FU]at hg;exact .inr (by omega)
          |false=>exact⟨v,nth cs i,v1,rfl,v2,fun g z hg _=>by simp at hg,fun g hg=>by simp at hg⟩)
        refine After.skip hdst (hst _ rfl k2 k4) ?_;exact⟨_,_,_,_,_,F⟩
     | false=>
      rw[hag]at hr;simp only[F0]at hr |-;cases hone:decide (ti.size=1)with
      |false=>rw[hone]at hr;exact absurd rfl hr
      | true=>
       have hone':ti.size=1:=by simpa using hone
       rw[hone]at hr;simp only[FW]at hr |-;have hput:∀(v:Value)(u:Ent)(en:Ent)(A:List (Nat×Option Nat))(av:AV),a.eval y=v->v.cells= #[v]->v.oneCell'=true->dz A gid->en.v= .val av->VR S β av v->
         (∀g z,en.g=some g->aA (A++e.al) g=some z->v=γN γ gid g)->(∀g,en.g=some g->U g\/(gid<=g/\g<gid+1000))->
         After P c N (UG U gid) (.ok (e.upd none { ent:=u,ls:=[(B+off,en)],add:=A }) h) o a w:=by
        intro v u en A av hav hc1 hc2 hA hen hr1 hg1 hg2;have F:=H.storeL (u:=u) (L:=[(B+off,en)]) (A:=A) (n:=1) (m:=m) (off:=off) (vs:=v.cells.toList) (ent:=fun _=>en) hU hA hm (by omega) (by rw[hc1];rfl) hlam hrow (fun t'=>by
          simp only[GH,GY,bu];by_cases ht':B+off=t'
          ·rw[FY ht',FY (by omega)]
          ·rw[if_neg ht',if_neg (by omega)];rfl) (fun i hi=>by
          have:i=0:=by omega
          subst this;exact⟨v,av,by rw[hc1];rfl,hen,hr1,hg1,hg2⟩)
        refine After.skip hdst (hst v hav (by rw[hc1,hone'];rfl) (by rw[hc1];simpa using hc2)) ?_;exact⟨_,_,_,_,_,F⟩
       rw[hdst]at *;cases y with
       | tmp s=>
        simp only at hr |-;have hs:=H.slots s (hy s rfl);cases hsv:(e.get s).v with
        |loc _ _=>rw[hsv]at hr;exact absurd rfl hr
        | val av=>
         rw[hsv]at hr hs;simp only at hr |-;unfold dJ at hr |-;cases hok:be av with
         |false=>rw[hok]at hr;exact absurd rfl hr
         |true=>
          obtain⟨j1,j2⟩:=eQ hok hs;refine hput _ _ (e.get s) [] av rfl j1 j2 (eh gid) hsv hs (fun g z hg hz=>?_) (fun g hg=>.inl (H.used.1 s g hg));unfold γN;rw[if_neg (fun hr=>hU g hr.1 hr.2 (H.used.1 s g hg))];exact H.grps s g z (hy s rfl) hg hz
       | const v=>
        simp only at hr |-;cases hn:aN (.const v)with
        | true=>
         have hv':v= .slice none 0 0:=by
          unfold aN at hn;split at hn
          ·rename_i hq;simpa using hq
          ·simp at hn
         subst hv';refine hput _ _ _ _ (.sl []) rfl rfl rfl (mL gid) rfl ?_ (fun g z hg hz=>?_) (fun g hg=>?_)
         ·simp only[VR];exact⟨none,0,rfl,FZ _,fun _=>rfl,fun q hq=>by cases hq⟩
         ·simp only[FU]at hg;unfold γN;rw[FY (by omega)];rfl
         ·simp only[FU]at hg;exact .inr (by omega)
        | false=>
         rw[hn]at hr;simp only[F0]at hr |-;unfold dJ at hr |-;cases hok:be (opnd e (.const v))with
         |false=>rw[hok]at hr;exact absurd rfl hr
         |true=>
          obtain⟨j1,j2⟩:=eQ hok hyv;exact hput _ _ _ [] _ rfl j1 j2 (eh gid) rfl hyv (fun g z hg _=>by cases hg) (fun g hg=>by cases hg)
       | global g=>
        simp only[aN,F0]at hr |-;unfold dJ at hr |-;cases hok:be (opnd e (.global g))with
        |false=>rw[hok]at hr;exact absurd rfl hr
        |true=>
         obtain⟨j1,j2⟩:=eQ hok hyv;exact hput _ _ _ [] _ rfl j1 j2 (eh gid) rfl hyv (fun g z hg _=>by cases hg) (fun g hg=>by cases hg)
       | func f=>
        simp only[aN,F0]at hr |-;unfold dJ at hr |-;cases hok:be (opnd e (.func f))with
        |false=>rw[hok]at hr;exact absurd rfl hr
        |true=>
         obtain⟨j1,j2⟩:=eQ hok hyv;exact hput _ _ _ [] _ rfl j1 j2 (eh gid) rfl hyv (fun g z hg _=>by cases hg) (fun g hg=>by cases hg)
 | val av=>
  rw[hv]at hr hp;simp only at hr |-;simp only[dA]at hp;simp only[aG,ae]at hr |-;cases hav:av with
  | hp l off=>
   subst hav;simp only[VR]at hp;obtain⟨⟨b,nb⟩,hb,hb0,hpv⟩:=hp;unfold fo at hr |-;cases ht:cx.T t with
   |none=>rw[ht]at hr;exact absurd rfl hr
   | some ti=>
    rw[ht]at hr;simp only at hr |-;cases hcs:h[l]? with
    |none=>rw[hcs]at hr;exact absurd rfl hr
    | some cs=>
     rw[hcs]at hr;simp only at hr |-;cases hcond:(bq ti.size (opnd e y)&&decide (off+ti.size<=cs.length)&&decide (0<ti.size))with
     |false=>rw[hcond]at hr;exact absurd rfl hr
     | true=>
      rw[hcond]at hr;simp only[FW]at hr |-;simp only[FV,F5]at hcond;obtain⟨⟨h1,h2⟩,h3⟩:=hcond;obtain⟨k2,k3,k4⟩:=ej h1 hyv;have hne:cs≠[]:=by rintro rfl;simp at h2;omega
      obtain⟨z,j1,j2,j3,j4,j5⟩:=H.heap.cells hcs hne hb hb0;rw[hb]at j1;cases j1;have hzs:cs.length<=z.size:=by
       have:=j4.length
       simp at this;omega
      have hacl:(ab (opnd e y)).length=ti.size:=by rw[<- k3.length];simpa using k2
      have F:=H.turnH (cs':=setCells cs off (ab (opnd e y))) (y:=(z.toList.take off++(a.eval y).cells.toList++z.toList.drop (off+(a.eval y).cells.toList.length)).toArray) hcs hne ⟨_,hb⟩ j2 (by simp[k2];omega) (by
       rw[eH _ _ _ (by omega)];have hsp:aP S β (setCells cs off (ab (opnd e y))) (((z.toList.take cs.length).take off++(a.eval y).cells.toList++(z.toList.take cs.length).drop (off+(a.eval y).cells.toList.length))):=by
        unfold setCells;have hl1:(a.eval y).cells.toList.length=(ab (opnd e y)).length:=k3.length;rw[hl1];exact ((j4.take off).append k3).append (j4.drop _)
       have heq:(z.toList.take off++(a.eval y).cells.toList++z.toList.drop (off+(a.eval y).cells.toList.length)).take cs.length=
         (z.toList.take cs.length).take off++(a.eval y).cells.toList++(z.toList.take cs.length).drop (off+(a.eval y).cells.toList.length):=by
        rw[HL,HL];have hl:(a.eval y).cells.toList.length=ti.size:=by simpa using k2
        have e1:(z.toList.take off).length=off:=by simp;omega
        rw[HF,HF];have e2:min cs.length off=off:=by omega
        have e3:min off cs.length=off:=by omega
        rw[e2,e3,e1];have e4:(a.eval y).cells.toList.take (cs.length-off)=(a.eval y).cells.toList:=HH (by omega);rw[e4];congr 1;rw[List.take_drop,Gh,e1,hl];congr 2;omega
       show aP S β _ (List.take _ _);rw[show (z.toList.take off++(a.eval y).cells.toList++z.toList.drop (off+(a.eval y).cells.toList.length)).toArray.toList=(z.toList.take off++(a.eval y).cells.toList++z.toList.drop (off+(a.eval y).cells.toList.length))from rfl,heq];exact hsp) (fun t ht=>ht.setCells.resolve_right (qE h1 t))
      refine After.skip hdst (hexec _ (by rw[hpv];exact ko hT ht j2 k2 k4 (by omega))) ?_;have hupd:∀E:Env,E.upd none (.ofV (.tup []))=E:=fun E=>rfl;rw[hupd];exact Fy ⟨_,_,_,_,_,F⟩
  |_=>subst hav;unfold fo at hr;exact absurd rfl hr
end
end Go.Av
namespace Go.Av
variable [Dr]
section
variable {P:Program} {cx:Cx} {c:Entry} {N:Nat} {U:Nat->Prop} {e:Env} {h:Hp} {a:Act} {w:World} {S:am} {β:List a7} {γ:Nat->Value} {lam:Nat->Option Nat} {ω:Nat->Owner} {o:Oper} {gid:Nat}
theorem CW(H:FR c N U e h a w S β γ lam ω)(hd:∀t,o.dst=some t->t<N){cs:List AV}{x:Array Value}{vs:List Value}{t:TypeId}(hvs:aP S β cs vs)(hx:∀(j:Nat)(v:Value),vs[j]? = some v->x[j]? = some v)(hrun:(execOp a.eval o).run P w= .ok (.value (.pointer (some ⟨w.heap.size,0,none⟩))) (w.alloc (.cells x t))):After P c N (UG U gid) (.ok (e.upd o.dst (.ofV (.ip cs))) h) o a w:=by
 have H2:=H.allocS x t x.size;refine After.val hrun (Fy ⟨_,β,γ,lam,ω,H2.setV hd ?_⟩);simp only[VR];refine⟨w.heap.size,0,vs,rfl,hvs.mono (fun k o v hv=>?_) (dm.refl β),fun j v hj=>?_⟩
 ·unfold am.withRowTo;split
  ·rename_i hk;subst hk;rw[H.wf.none (FZ _)]at hv;simp at hv
  ·exact hv
 ·have:=hx j v hj
  unfold am.withRowTo;rw[FY rfl,GP,FY]
  ·exact this
  ·rcases Gd j x.size with h|h
   ·exact h
   ·rw[Gz h]at this;simp at this
theorem tE(H:FR c N U e h a w S β γ lam ω)(hd:∀t,o.dst=some t->t<N){cs:List AV}{x:Array Value}{vs:List Value}{t:TypeId}(hvs:aP S β cs vs)(hx:∀(j:Nat)(v:Value),vs[j]? = some v->x[j]? = some v)(hrun:(execOp a.eval o).run P w= .ok (.value (.pointer (some ⟨w.heap.size,0,none⟩))) (w.alloc (.cells x t)))(hr:aG e o.dst (.dyn (newH cs) .ofV) h≠.fail):After P c N (UG U gid) (aG e o.dst (.dyn (newH cs) .ofV) h) o a w:=by
 have hcs:cs≠[]:=by
  rintro rfl;exact hr rfl
 have hemp:(cs.isEmpty||cs.any lM)=false:=by
  cases hq:(cs.isEmpty||cs.any lM)with
  |false=>rfl
  |true=>
   exfalso;apply hr;simp only[aG,ae,newH,hq,FW]
 have hnb:=y3 (Hc.1 hemp).2;have htake:aP S β cs (x.toList.take cs.length):=by
  refine .of_get ?_ fun i y v hy hv=>?_
  ·have hl:=hvs.length;rw[Hd];have:cs.length<=x.size:=by
    rcases GF cs.length with h0|h0
    ·omega
    ·obtain⟨v,hv,_⟩:=hvs.allR (cs.length-1) (by omega)
     have:=hx _ _ hv
     rcases Gd (cs.length-1) x.size with h|h
     ·omega
     ·rw[Gz h]at this;simp at this
   simp;omega
  ·obtain⟨u,hu,hur⟩:=hvs.get hy
   have:=hx i u hu
   rw[Gg]at hv;split at hv
   ·rw[GJ,this]at hv;cases hv;exact hur
   ·simp at hv
 obtain⟨ω',F,hnew,_⟩:=H.newH x t htake (fun t ht=>absurd ht (hnb t));have hx0:x.size≠0:=by
  have h1:=htake.length;have h2:=Hv.2 hcs;simp only[Hd,GD]at h1;omega
 simp only[aG,ae,newH,hemp,F0,M.pure];refine After.val hrun (Fy ⟨_,_,γ,lam,ω',F.setV hd ?_⟩);simp only[VR];exact⟨_,hnew,hx0,rfl⟩
theorem y2(H:FR c N U e h a w S β γ lam ω)(hd:∀t,o.dst=some t->t<N){cs:List AV}{x:Array Value}{t:TypeId}(hvs:aP S β cs x.toList)(hrun:(execOp a.eval o).run P w= .ok (.value (.pointer (some ⟨w.heap.size,0,none⟩))) (w.alloc (.cells x t)))(hr:aG e o.dst (.dyn (y1 t cs) .ofV) h≠.fail):After P c N (UG U gid) (aG e o.dst (.dyn (y1 t cs) .ofV) h) o a w:=absurd rfl hr
omit [Dr]in
theorem tZ(hT:TOK P cx.T){t:Nat}{ti:TI}(ht:cx.T t=some ti):∃z:Value,(Instr.alloc t true (.tuple #[])).run P w= .ok (.pointer (some ⟨w.heap.size,0,none⟩)) (w.alloc (.cells z.cells t))/\z.cells.size=ti.size/\
  (∀told,aP S β (cy told ti) z.cells.toList):=by
 obtain⟨i,d,z,hi,hd,hz,hzs,hsz,_⟩:=(hT.get ht).ex;refine⟨z,?_,by omega,fun told=>mB hT ht told hi hz⟩;simp[Instr.alloc,zeroValue,typeInfo,hi,hz,newVar,newRow]
theorem vB(hT:TOK P cx.T)(H:FR c N U e h a w S β γ lam ω)(hd:∀t,o.dst=some t->t<N)(hU:∀g,gid<=g->g<gid+1000->¬U g){t:Nat}(ho:o.op= .alloc t)(hr:aX cx e gid o h≠.fail):
  After P c N (UG U gid) (aX cx e gid o h) o a w:=by
 unfold aX dG at hr |-;rw[ho]at hr |-;simp only at hr |-;cases hdst:o.dst with
 |none=>rw[hdst]at hr;exact absurd rfl hr
 | some s=>
  rw[hdst]at hr;simp only at hr |-;unfold dL at hr |-;cases ht:cx.T t with
  |none=>rw[ht]at hr;exact absurd rfl hr
  | some ti=>
   rw[ht]at hr;simp only at hr |-;obtain⟨z,hrun,hzs,hz⟩:=tZ (w:=w) (S:=S) (β:=β) hT ht;have hexec:(execOp a.eval o).run P w= .ok (.value (.pointer (some ⟨w.heap.size,0,none⟩))) (w.alloc (.cells z.cells t)):=by
    simp only[execOp,ho,Sem.run_bind,hrun,Result.andThen_ok,Sem.run_pure]
   have hL:∀A:Act1,A=(bif decide (ti.size<1000)&&aL e.sl (aT s)&&fP (cy true ti) (dC cx.ann.nils s) ti.size then
     .stat { ent:=⟨.loc (aT s) 0,none⟩,ls:=gz (aT s) (cy (dw cx.ann.hb s) ti) (dC cx.ann.nils s) gid ti.size,add:=kA (dC cx.ann.nils s) gid,lb:=some (aT s,ti.size) }else .bad)->
     aG e (some s) A h≠.fail->After P c N (UG U gid) (aG e (some s) A h) o a w:=by
    rintro A rfl hr;cases hcond:(decide (ti.size<1000)&&aL e.sl (aT s)&&fP (cy true ti) (dC cx.ann.nils s) ti.size)with
    |false=>rw[hcond]at hr;exact absurd rfl hr
    |true=>
     simp only[FW];simp only[FV,F5]at hcond;obtain⟨⟨h1,h2⟩,h3⟩:=hcond;obtain⟨lam',ω',F⟩:=H.allocL (s:=s) (n:=ti.size) (gid:=gid) (x:=z.cells) (t:=t) (cs:=cy (dw cx.ann.hb s) ti) (offs:=dC cx.ann.nils s) (hd s hdst) hU h1 (fun i hi=>by
       have hzz:=hz (dw cx.ann.hb s);have hl:=hzz.length;obtain⟨v,v1,v2⟩:=hzz.allR i (by rw[<- hl];simpa [hzs]using hi);exact⟨v,by simpa using v1,v2⟩) (fun i hi=>by
       unfold fP at h3;rw[F9]at h3
       have:=h3 i hi
       rw[FV]at this;have hn:=qp this.2;have hlt:i<ti.size:=by simpa using this.1
       have hzz:=hz true;have hl:=hzz.length;obtain⟨v,v1,v2⟩:=hzz.allR i (by rw[<- hl];simpa [hzs]using hlt);rw[hn]at v2;simp only[VR]at v2;subst v2;exact⟨hlt,by simpa using v1⟩) h2
     refine After.val hexec ?_;rw[hdst];exact⟨_,_,_,_,_,F⟩
   cases hk:bv cx.ann.kinds s .L with
   |F=>
    simp only;rw[<- hdst];exact CW H hd (hz false) (fun j v hj=>by simpa using hj) hexec
   |H=>
    simp only;rw[<- hdst];exact tE H hd (hz _) (fun j v hj=>by simpa using hj) hexec (by rw[hdst];simpa only[hk]using hr)
   |B=>
    simp only;rw[hk]at hr;rw[<- hdst]at hr |-;exact y2 H hd (hz _) hexec hr
   |L=>rw[hk]at hr;exact hL _ rfl hr
   |S=>rw[hk]at hr;exact hL _ rfl hr
theorem A0(H:FR c N U e h a w S β γ lam ω)(hd:∀t,o.dst=some t->t<N)(hU:∀g,gid<=g->g<gid+1000->¬U g){t:Nat}{x:Operand}(ho:o.op= .box t x)(hx:∀t,x= .tmp t->t<1000)(hr:aX cx e gid o h≠.fail):
  After P c N (UG U gid) (aX cx e gid o h) o a w:=by
 unfold aX dG at hr |-;rw[ho]at hr |-;simp only at hr |-;cases hdst:o.dst with
 |none=>rw[hdst]at hr;exact absurd rfl hr
 | some s=>
  rw[hdst]at hr;simp only at hr |-;have hv:=aK H x hx;have hexec:(execOp a.eval o).run P w= .ok (.value (.pointer (some ⟨w.heap.size,0,none⟩))) (w.alloc (.cells (a.eval x).cells t)):=by
   simp[execOp,ho,Instr.box,newVar,newRow]
  obtain⟨vs,hvs,hvx⟩:=hv.acells
  have hL:∀A:Act1,A=(match cx.T t with
    |none=>.bad
    | some ti=>bif decide (ti.size<1000)&&aL e.sl (aT s)then
      .dyn (bT ti.size (opnd e x)) fun v=>{ ent:=⟨.loc (aT s) 0,none⟩,ls:=gz (aT s) (ab v) [] 0 ti.size,lb:=some (aT s,ti.size) }
     else .bad)->aG e (some s) A h≠.fail->After P c N (UG U gid) (aG e (some s) A h) o a w:=by
   rintro A rfl hr;cases ht:cx.T t with
   |none=>rw[ht]at hr;exact absurd rfl hr
   | some ti=>
    rw[ht]at hr;simp only at hr |-;cases hcond:(decide (ti.size<1000)&&aL e.sl (aT s))with
    |false=>rw[hcond]at hr;exact absurd rfl hr
    | true=>
     rw[hcond]at hr;simp only[FW]at hr |-;simp only[FV,F5]at hcond;obtain⟨h1,h2⟩:=hcond;unfold bT at hr |-;cases hcs:fJ ti.size (opnd e x)with
     |none=>rw[hcs]at hr;exact absurd rfl hr
     | some cs=>
      obtain⟨_,k2,k3,_⟩:=jj hcs hv;obtain⟨lam',ω',F⟩:=H.allocL (s:=s) (n:=ti.size) (gid:=gid) (x:=(a.eval x).cells) (t:=t) (cs:=cs) (offs:=[]) (hd s hdst) hU h1 (fun i hi=>by
       obtain⟨v,v1,v2⟩:=k3.allR i (by rw[<- k3.length];simpa [k2]using hi);exact⟨v,by simpa using v1,v2⟩) (fun i hi=>by simp at hi) h2
      refine After.val hexec ?_;rw[hdst];have hls:gz (aT s) cs [] 0 ti.size=gz (aT s) cs [] gid ti.size:=by simp[gz,dw]
      have hac:ab (.agg cs)=cs:=rfl;simp only[hac,hls];exact⟨_,_,_,_,_,F⟩
  unfold gC at hr |-;cases hk:bv cx.ann.kinds s .F with
  |F=>
   simp only;rw[<- hdst];exact CW H hd hvs (fun j v hj=>by simpa using hvx j v hj) hexec
  |H=>
   simp only;rw[<- hdst];exact tE H hd hvs (fun j v hj=>by simpa using hvx j v hj) hexec (by rw[hdst];simpa only[hk]using hr)
  |B=>rw[hk]at hr;exact absurd rfl hr
  |L=>rw[hk]at hr;exact hL _ rfl hr
  |S=>rw[hk]at hr;exact hL _ rfl hr
theorem xK(H:FR c N U e h a w S β γ lam ω)(hd:∀t,o.dst=some t->t<N){B b off:Nat}(hlam:lam B=some b)(hrun:(execOp a.eval o).run P w= .ok (.value (.pointer (some ⟨b,off,none⟩))) w):
  After P c N (UG U gid) (.ok (e.upd o.dst { ent:=⟨.loc B off,none⟩ }) h) o a w:=
 After.val hrun (Fy ⟨S,β,γ,lam,ω,H.set hd (by simp only[dA];exact⟨b,hlam,rfl⟩) (fun _ _ h=>by cases h) (fun _ h=>by cases h)⟩)
theorem oE(hT:TOK P cx.T)(H:FR c N U e h a w S β γ lam ω)(hd:∀t,o.dst=some t->t<N){t f:Nat}{x:Operand}(ho:o.op= .fieldAddr t x f)(hx:∀t,x= .tmp t->t<1000)(hr:aX cx e gid o h≠.fail):
  After P c N (UG U gid) (aX cx e gid o h) o a w:=by
 unfold aX dG at hr |-;rw[ho]at hr |-;cases x<;>simp only at hr |- <;> (try exact absurd rfl hr);rename_i p;have hp:=H.slots p (hx p rfl);unfold eN at hr |-;cases hv:(e.get p).v with
 | loc B off=>
  rw[hv]at hr hp;simp only at hr |-;simp only[dA]at hp;obtain⟨b,hlam,hpv⟩:=hp;cases ht:cx.T t with
  |none=>rw[ht]at hr;exact absurd rfl hr
  | some ti=>
   rw[ht]at hr;simp only at hr |-;cases hf:ti.offs[f]? with
   |none=>rw[hf]at hr;exact absurd rfl hr
   | some q=>
    obtain⟨o',ft,nm⟩:=q;rw[hf]at hr;simp only at hr |-;cases hft:cx.T ft with
    |none=>rw[hft]at hr;exact absurd rfl hr
    | some fi=>
     rw[hft]at hr;simp only at hr |-;cases hz:decide (fi.size=0)with
     |true=>rw[hz]at hr;exact absurd rfl hr
     | false=>
      simp only[F0];have hfa:aa cx.T t (.hp 0 off) f=some (.hp 0 (off+o')):=by
       unfold aa;rw[ht];simp only;rw[hf];simp only;rw[hft];simp only;rw[if_neg (by simpa using hz)]
      obtain⟨v,h1,h2⟩:=iG (P:=P) (w:=w) (S:=S) (β:=[(b,1)]) hT hfa (vx:=.pointer (some ⟨b,off,none⟩)) (by simp[VR]);simp only[VR]at h2;obtain⟨b',hb',_,rfl⟩:=h2;simp only[Ga,FU]at hb';subst hb';refine xK H hd hlam ?_;have he:a.eval (.tmp p)= .pointer (some ⟨b,off,none⟩):=hpv;simp only[execOp,ho,he,Sem.run_bind,h1,Result.andThen_ok,Sem.run_pure]
 |val av=>
  rw[hv]at hr hp;simp only at hr |-;refine cL H hd (m:=Instr.fieldAt t (a.eval (.tmp p)) f) (by simp[execOp,ho]) (fun r hr'=>iG hT hr' hp) hr
theorem oJ(hT:TOK P cx.T)(H:FR c N U e h a w S β γ lam ω)(hd:∀t,o.dst=some t->t<N){t:Nat}{x i:Operand}(ho:o.op= .indexAddr t x i)(hx:∀t,x= .tmp t->t<1000)(hi:∀t,i= .tmp t->t<1000)(hr:aX cx e gid o h≠.fail):
  After P c N (UG U gid) (aX cx e gid o h) o a w:=by
 unfold aX dG at hr |-;rw[ho]at hr |-;cases x<;>simp only at hr |- <;> (try exact absurd rfl hr)
 rotate_left
 ·rename_i g;exact cL H hd (m:=Instr.indexAt t (a.eval (.global g)) (a.eval i)) (by simp[execOp,ho]) (fun r hr'=>fM hT hr' (aK H (.global g) (fun t h=>by cases h)) (aK H i hi)) hr
 rename_i p;have hp:=H.slots p (hx p rfl);unfold cp at hr |-;cases hv:(e.get p).v with
 | loc B off=>
  rw[hv]at hr hp;simp only at hr |-;simp only[dA]at hp;obtain⟨b,hlam,hpv⟩:=hp;cases ht:cx.T t with
  |none=>rw[ht]at hr;exact absurd rfl hr
  | some ti=>
   rw[ht]at hr;cases hci:ln i with
   |none=>rw[hci]at hr;exact absurd rfl hr
   |some n=>
   rw[hci]at hr;simp only at hr |-;obtain⟨ik,rfl⟩:∃ik,i= .const (.int ik n):=by
    unfold ln at hci;split at hci
    ·simp only[FU]at hci;subst hci;exact⟨_,rfl⟩
    ·simp at hci
   cases hk:ti.kind<;>rw[hk]at hr<;>simp only at hr |- <;> (try exact absurd rfl hr);rename_i m el;cases hel:cx.T el with
   |none=>rw[hel]at hr;exact absurd rfl hr
   | some ei=>
    rw[hel]at hr;simp only at hr |-;cases hc:decide (0<=n/\n<m)with
    |false=>rw[hc]at hr;exact absurd rfl hr
    | true=>
     simp only[FW];have hia:ax cx.T t (.hp 0 off) (.int ik n)=some (.hp 0 (off+n.toNat*ei.size)):=by
      unfold ax;rw[ht];simp only;rw[hk];simp only;rw[hel];simp only;rw[FY (by simpa using hc)]
     obtain⟨v,h1,h2⟩:=fM (P:=P) (w:=w) (S:=S) (β:=[(b,1)]) hT hia (vx:=.pointer (some ⟨b,off,none⟩)) (vi:=.int ik n) (by simp[VR]) (by simp[VR]);simp only[VR]at h2;obtain⟨b',hb',_,rfl⟩:=h2;simp only[Ga,FU]at hb';subst hb';refine xK H hd hlam ?_;have he:a.eval (.tmp p)= .pointer (some ⟨b,off,none⟩):=hpv;have hei:a.eval (.const (.int ik n))= .int ik n:=rfl;simp only[execOp,ho,he,hei,Sem.run_bind,h1,Result.andThen_ok,Sem.run_pure]
 |val av=>
  rw[hv]at hr hp;simp only at hr |-;refine cL H hd (m:=Instr.indexAt t (a.eval (.tmp p)) (a.eval i)) (by simp[execOp,ho]) (fun r hr'=>fM hT hr' hp (aK H i hi)) hr
theorem qC(H:FR c N U e h a w S β γ lam ω)(hd:∀t,o.dst=some t->t<N){x:Operand}(ho:o.op= .nilCheck x)(hx:∀t,x= .tmp t->t<1000)(hr:aX cx e gid o h≠.fail):
  After P c N (UG U gid) (aX cx e gid o h) o a w:=by
 unfold aX dG at hr |-;rw[ho]at hr |-;cases x<;>simp only at hr |- <;> (try exact absurd rfl hr);rename_i p;have hp:=H.slots p (hx p rfl);cases hv:(e.get p).v with
 |loc B off=>
  have hp2:=hp;rw[hv]at hr hp;simp only at hr |-;simp only[dA]at hp;obtain⟨b,hlam,hpv⟩:=hp;have he:a.eval (.tmp p)= .pointer (some ⟨b,off,none⟩):=hpv;exact s8 H hd (hx p rfl) (by simp[execOp,ho,he,hpv])
 | val av=>
  rw[hv]at hr hp;simp only at hr |-;have he:a.eval (.tmp p)=a.tmps.getD p undef:=rfl;cases hn:db av with
  |none=>rw[hn]at hr;exact absurd rfl hr
  | some r=>
   have hrun:(execOp a.eval o).run P w= .ok (.value (a.tmps.getD p undef)) w/\r=av:=by
    simp only[dA]at hp;unfold db at hn;split at hn<;>simp only[FU,reduceCtorEq]at hn<;>subst hn<;>simp only[VR]at hp
    ·obtain⟨b,off,vs,hpv,_⟩:=hp;exact⟨by simp[execOp,ho,he,hpv],rfl⟩
    ·obtain⟨b,hb,hpv⟩:=hp;exact⟨by simp[execOp,ho,he,hpv],rfl⟩
    ·obtain⟨y,hpv,_⟩:=hp;exact⟨by simp[execOp,ho,he,hpv],rfl⟩
    ·obtain⟨y,z,hpv,_⟩:=hp;exact⟨by simp[execOp,ho,he,hpv],rfl⟩
   obtain⟨hrun,rfl⟩:=hrun;exact After.val hrun (Fy ⟨S,β,γ,lam,ω,H.setV hd hp⟩)
end
end Go.Av
namespace Go.Av
variable [Dr]
section
variable {P:Program} {cx:Cx} {c:Entry} {N:Nat} {U:Nat->Prop} {e:Env} {h:Hp} {a:Act} {w:World} {S:am} {β:List a7} {γ:Nat->Value} {lam:Nat->Option Nat} {ω:Nat->Owner} {o:Oper} {gid:Nat}
theorem FR.out'(H:FR c N U e h a w S β γ lam ω){S':am}{β':List a7}{w':World}{h':Hp}(L:Left (ba β h) S β w S' β' w' h'):Out c h' w' S' β':=by
 obtain⟨ω',F,_⟩:=H.left L;exact F.out
theorem ie(hC:bC P cx.own cx.call)(H:FR c N U e h a w S β γ lam ω)(hd:∀t,o.dst=some t->t<N)(hU:∀g,gid<=g->g<gid+1000->¬U g){f:FuncId}{args:List AV}{vs:List Value}(hargs:aP S β args vs)(hrun:(P.funcs[f]?).any (fun fn=>fn.body.isSome&&!(fn.name== "runtime.NumGoroutine"))=true->(execOp a.eval o).run P w= .ok (.enter f vs.toArray) w){sh:AV->Upd}(hsh:(∀v,sh v= .ofV v)\/∃sz,cx.own f=some sz/\∀v,sh v= .own v gid (some sz))(hr:(ae (cx.call f args) fun v=>M.pure (e.upd o.dst (sh v))) h≠.fail):After P c N (UG U gid) ((ae (cx.call f args) fun v=>M.pure (e.upd o.dst (sh v))) h) o a w:=by
 have hne:cx.call f args h≠.fail:=by
  intro hf;unfold ae at hr;rw[hf]at hr;exact hr rfl
 obtain⟨hcalls,hfn⟩:=hC f args h S β w vs hne H.gok H.wf H.heapX hargs;have hrun:=hrun hfn;intro next Q hn hp
 unfold Oper.wp;rw[hrun];simp only[Oper.upon];refine hcalls.mono fun en w' hpost=>?_;unfold ae at hn hp;cases hres:cx.call f args h with
 |fail=>exact absurd hres hne
 |pan pv h'=>
  rw[hres]at hpost hp;obtain⟨S',β',v,rfl,hv,hleft⟩:=hpost;exact hp pv h' v w' rfl ⟨S',β',H.out' hleft,hv⟩
 | ok rv h'=>
  rw[hres]at hpost hn;obtain⟨S',β',v,rfl,hv,hleft,hown⟩:=hpost;obtain⟨ω',F,hno⟩:=H.left hleft;refine hn (e.upd o.dst (sh rv)) h' _ _ rfl ?_ (put_defers a o.dst v);rcases hsh with hsh|⟨sz,hof,hsh⟩
  ·rw[hsh];exact Fy ⟨_,_,_,_,_,F.setV hd hv⟩
  ·rw[hsh];obtain⟨ad,len,cap,rfl,h1,h2,h3⟩:=hown sz hof;obtain⟨ω2,F2⟩:=F.own (z:=some sz) hd hv hU (by
    rcases h3 with h3|⟨b,off,x,rfl,g1,g2,g3,g4,g5⟩
    ·subst h3;exact .inl ⟨ad,len,rfl,h2⟩
    ·exact .inr ⟨len,cap,sz,b,off,x,rfl,h1,rfl,g1,g2,hno b g3 g4,He H.size g3,g5⟩)
   exact⟨_,_,_,_,ω2,F2⟩
omit [Dr]in
theorem eL{f:FuncId}{args:Array Value}(hf:(P.funcs[f]?).any (fun fn=>fn.body.isSome&&!(fn.name== "runtime.NumGoroutine"))=true):(callFunc f args).run P w= .ok (.enter f args) w:=by
 cases hfn:P.funcs[f]? with
 |none=>rw[hfn]at hf;simp at hf
 |some fn=>
  rw[hfn]at hf;simp only[Option.any_some,FV,GI]at hf;obtain⟨h1,h2⟩:=hf;have h3:fn.body.isNone=false:=by cases hb:fn.body<;>simp_all
  simp only[callFunc,Sem.run_bind,run_program,Result.andThen_ok,hfn,h2,F7,Gl,h3,Sem.run_pure]
omit [Dr]in
theorem nq{z:Option Nat}{g sz:Nat}{v:Value}(hf:jK S w ω g z v)(hz:o9 z (some sz)=true):kN w sz v/\(z=none\/z=some sz):=by
 have hz':z=none\/z=some sz:=by
  unfold o9 at hz;cases z with
  |none=>exact .inl rfl
  |some n=>simp only at hz;exact .inr (by rw[F6 hz])
 refine⟨?_,hz'⟩;obtain⟨ad,len,cap,h1,h2,h3,h4⟩:=hf;refine⟨ad,len,cap,h1,h2,h3,h4.imp id ?_⟩;rintro⟨sz',b,off,x,g1,g2,g3,g4,_⟩;rcases hz' with rfl|rfl
 ·cases g1
 ·cases g1;exact⟨b,off,x,g2,g3,g4⟩
omit [Dr]in
theorem vU{T:TT}{t:Nat}{as:List AV}{y r:AV}(h:cZ T t (.sl as) y=some r):∃ti e ei bs,T t=some ti/\ti.kind= .slice e/\T e=some ei/\g7 y=some bs/\cJ ei.size as=true/\cJ ei.size bs=true/\
  (as.length+bs.length)*ei.bytes<=140737488355328/\0<ei.bytes/\r= .sl (as++bs)/\bV T t=some ei.size/\mq y ei.size=true:=by
 unfold cZ at h;cases ht:T t with
 |none=>rw[ht]at h;simp at h
 | some ti=>
  rw[ht]at h;simp only at h;split at h
  ·rename_i e hk;cases he:T e with
   |none=>rw[he]at h;simp at h
   | some ei=>
    rw[he]at h;simp only at h;cases hb:g7 y with
    |none=>rw[hb]at h;simp at h
    | some bs=>
     rw[hb]at h;simp only at h;cases hc:(cJ ei.size as&&cJ ei.size bs&&decide ((as.length+bs.length)*ei.bytes<=140737488355328)&&decide (0<ei.bytes)&&mq y ei.size)with
     |false=>rw[hc]at h;simp at h
     |true=>
      rw[hc]at h;simp only[FW,FU]at h;simp only[FV,F5]at hc;obtain⟨⟨⟨⟨h1,h2⟩,h3⟩,h4⟩,h5⟩:=hc;exact⟨ti,e,ei,bs,rfl,hk,he,rfl,h1,h2,h3,h4,h.symm,by simp[bV,ht,hk,he],h5⟩
  ·simp at h
omit [Dr]in
theorem yf{T:TT}{t:Nat}{x y r:AV}(h:cZ T t x y=some r):∃as,x= .sl as:=by
 unfold cZ at h;split at h
 ·simp at h
 ·split at h
  ·split at h
   ·simp at h
   ·split at h
    ·exact⟨_,rfl⟩
    ·simp at h
  ·simp at h
omit [Dr]in
theorem nW{y:AV}{n:Nat}(h:mq y n=true):∀s,y= .str s->n=1:=by
 rintro s rfl;exact F6 h
omit [Dr]in
theorem cV{t u:TypeId}{x y:Operand}{cc:Call}(ho:o.op= .call cc)(hb:cc.callee= .builtin .append)(ht:cc.argTypes.toList=[t,u])(hx:cc.args.toList=[x,y]){v:Value}{w':World}(hrun:(Builtin.append_ #[t,u] o.type #[a.eval x,a.eval y]).run P w= .ok v w'):(execOp a.eval o).run P w= .ok (.value v) w':=by
 have h1:cc.argTypes= #[t,u]:=by apply Hl;simpa using ht
 have h2:cc.args= #[x,y]:=by apply Hl;simpa using hx
 have h3:cc.args.map a.eval= #[a.eval x,a.eval y]:=by rw[h2];simp
 simp only[execOp,ho,resolve,hb,Sem.run_bind,Sem.run_pure,Result.andThen_ok,invoke,builtin,h1,h3,hrun]
omit [Dr]in
theorem jZ{ag:Bool}{sz:Nat}(hs:ag=true\/sz=1):∀(n:Nat)(cs:List AV)(vs:List Value),aP S β cs vs->n*sz<=cs.length->(cs.take (n*sz)).all be=true->cb S β (fc ag sz n cs) (vs.take (n*sz)) sz
 |0,cs,vs,_,_,_=>by rw[HC,HY];exact .nil sz
 | n + 1,cs,vs,hv,hl,hok=>by
  have hm:(n+1)*sz=sz+n*sz:=by rw[Gy,Nat.one_mul,Nat.add_comm]
  have hle:sz<=cs.length:=by omega
  have hvl:=hv.length
  have h1:cb S β [bif ag then .agg (cs.take sz)else nth cs 0] (vs.take sz) sz:=by
   have hcl:(vs.take sz).length=sz:=by simp;omega
   have hone:∀(c:AV)(x:Value)(j:Nat),j<sz->cs[j]? = some c->vs[j]? = some x->x.cells= #[x]/\x.oneCell'=true:=fun c x j hj hc hx=>by
    obtain⟨y,hy,hr⟩:=hv.get hc;rw[hx]at hy;cases hy;refine eQ (F9.1 hok c (GT (i:=j) ?_)) hr;rw[Gg,FY (by omega)];exact hc
   have hex:∀(j:Nat)(x:Value),j<sz->vs[j]? = some x->∃c,cs[j]? = some c:=fun j x hj hx=>⟨_,Gf (by omega)⟩;refine⟨by rw[hcl];simp,fun i e he=>?_,fun x hx=>?_⟩
   ·cases i with
    |succ i=>simp at he
    | zero=>
     simp only[Ga,FU]at he;subst he;cases ag with
     |true=>
      refine⟨.agg (vs.take sz).toArray,by simp only[FW,VR];exact⟨_,rfl,hv.take sz⟩,by simp[Value.cells];omega,fun j x hx=>?_⟩;simpa [Value.cells]using hx
     | false=>
      rcases hs with hs|hs
      ·cases hs
      ·subst hs;have hc0:cs[0]? = some (nth cs 0):=by
        unfold nth;rw[Gf (by omega),Gv,Gf (by omega)];rfl
       obtain⟨y,hy,hr⟩:=hv.get hc0;have ho:=hone _ y 0 (by omega) hc0 hy;refine⟨y,hr,by rw[ho.1];rfl,fun j x hx=>?_⟩;rw[ho.1]at hx;cases j with
       |succ j=>simp at hx
       |zero=>
        simp only[GQ,Ga,FU]at hx;subst hx;simp only[HC,GP,GQ];rw[Gg,FY (by omega)];exact hy
   ·obtain⟨j,hj⟩:=HU hx;rw[Gg]at hj;split at hj
    ·rename_i hlt;obtain⟨c,hc⟩:=hex j x hlt hj;exact (hone c x j hlt hc hj).2
    ·simp at hj
  have h2:=jZ hs n (cs.drop sz) (vs.drop sz) (hv.drop sz) (by simp;omega) (by
   rw[F9]at hok |-;intro x hx;obtain⟨j,hj⟩:=HU hx;rw[Gg]at hj;split at hj
   ·rename_i hlt;rw[GO]at hj;refine hok x (GT (i:=sz+j) ?_);rw[Gg,FY (by omega)];exact hj
   ·simp at hj)
  have:=h1.append h2
  rw[hm,List.take_add];exact this
def pm(P:Program)(S:am)(β:List a7)(w:World)(v:Value)(Y:AV):Prop:=
 ∀(sz:Nat)(bs:List AV),g7 Y=some bs->cJ sz bs=true->(∀s,Y= .str s->sz=1)->(Builtin.lenOf v).run P w= .ok bs.length w/\∃cs:List Value,cb S β bs cs sz/\
  ∀w':World,(∀a:Addr,w'.cell? a=w.cell? a)->(Builtin.firstCells sz bs.length v).run P w'= .ok cs.toArray w'
omit [Dr]in
theorem jd{Y:AV}{v:Value}(hw:Wf S w)(hv:VR S β Y v):pm P S β w v Y:=fun sz bs he hok hs=>by
 obtain⟨h1,cs,h2,h3⟩:=src_ok (P:=P) hw he hv hok hs;exact⟨h1,cs,h2,fun w' hw'=>h3 w' fun b o x hx=>by rw[hw'];exact hw b o x hx⟩
omit [Dr]in
theorem lk(ag:Bool)(sz:Nat):∀(n:Nat)(cs:List AV),(fc ag sz n cs).length=n
 |0,_=>rfl
 |n+1,cs=>by simp[fc,lk ag sz n]
theorem mm(H:FR c N U e h a w S β γ lam ω){Y:AV}{v:Value}{es:List AV}(hv:VR S β Y v)(hsrc:mN h Y=some es):pm P S β w v (.sl es):=fun sz' bs he hok _=>by
 simp only[g7,FU]at he;subst he;unfold mN at hsrc;split at hsrc
 ·rename_i l off len sz ag;cases hcs:h[l]? with
  |none=>rw[hcs]at hsrc;cases hsrc
  | some cs=>
   rw[hcs]at hsrc;simp only at hsrc;cases hb:((ag||Nat.beq sz 1)&&decide (off+len*sz<=cs.length)&&((cs.drop off).take (len*sz)).all be)with
   |false=>rw[hb]at hsrc;cases hsrc
   | true =>
    rw[hb]at hsrc;simp only[FW,FU]at hsrc;subst hsrc;simp only[FV,F5,GE]at hb;obtain⟨⟨h1,h2⟩,h3⟩:=hb;have hag:ag=true\/sz=1:=h1.imp id F6;rw[lk];rcases GF len with rfl|h0
    ·obtain⟨q,cap,rfl,_⟩:=hv.hs_some;exact⟨rfl,[],by simp only[fc];exact .nil sz',fun w' _=>run_firstCells_some w' sz' 0 q 0 cap [] (by simp) fun j x hx=>by simp at hx⟩
    ·obtain⟨⟨b',nb⟩,cap,hβ,hb0,rfl,hlc,hcn⟩:=hv.hs_pos h0;have hne:cs≠[]\/sz=0:=by
      rcases GF sz with hz|hz
      ·exact .inr hz
      ·refine .inl ?_;rintro rfl
       have:=HJ h0 hz
       simp at h2;omega
     -- the size of an element is that of the slice
     have hsz:sz'=sz:=by
      have hall:=F9.1 hok (bif ag then .agg ((cs.drop off).take sz)else nth (cs.drop off) 0) (by
       cases len with
       |zero=>omega
       |succ n=>simp[fc])
      simp only[bq,FV,GG]at hall;have hsa:=hall.1;have hle:sz<=(cs.drop off).length:=by
       have:1*sz<=len*sz:=Gc _ h0;simp;omega
      cases ag with
      |true=>
       simp only[FW,bS,FU,Hd]at hsa;omega
      | false=>
       rcases hag with hag|hag
       ·cases hag
       ·subst hag;simp only[F0]at hsa;have hc0:(cs.drop off)[0]? = some (nth (cs.drop off) 0):=by
         unfold nth;rw[Gf (by omega),Gv,Gf (by omega)];rfl
        have hoc:=F9.1 h3 (nth (cs.drop off) 0) (GT (i:=0) (by rw[Gg,FY (by omega)];exact hc0));generalize nth (cs.drop off) 0=q at hsa hoc;cases q<;>simp[be,bS]at hsa hoc<;>omega
     subst hsz;rcases hne with hne|hz
     ·obtain⟨z,j1,j2,j3,j4,j5⟩:=H.heap.cells hcs hne hβ hb0;rw[hβ]at j1;cases j1;have hzl:cs.length<=z.size:=by have:=j4.length;simp at this;omega
      have j6:aP S β (cs.drop off) ((z.toList.take cs.length).drop off):=j4.drop off;have hF:=jZ hag len (cs.drop off) _ j6 (by simp;omega) h3;refine⟨rfl,_,hF,fun w' hw'=>?_⟩;refine run_firstCells_some w' sz' len ⟨b',off,none⟩ len cap _ (by simp;omega) fun j q hq=>?_;rw[addr_add,hw',j2.cell];rw[Gg]at hq;split at hq
      ·rw[GO,Gg]at hq;split at hq
       ·simpa using hq
       ·simp at hq
      ·simp at hq
     ·subst hz;rcases hag with rfl|hag
      ·have hall:∀n cs,cb S β (fc true 0 n cs) [] 0:=by
        intro n
        induction n with
        |zero=>intro cs;exact .nil 0
        | succ n ih=>
         intro cs;have:cb S β [AV.agg (cs.take 0)] [] 0:=⟨by simp,fun i e he=>by
          cases i with
          |zero=>
           simp only[Ga,FU]at he;subst he;exact⟨.agg #[],by simp only[VR,HY];exact⟨[],rfl,by simp[aP]⟩,rfl,fun j x hx=>by simp[Value.cells]at hx⟩
          |succ i=>simp at he,fun x hx=>by simp at hx⟩
         exact this.append (ih _)
       exact⟨rfl,[],hall _ _,fun w' _=>run_firstCells_some w' 0 len _ len cap [] (by simp) fun j x hx=>by simp at hx⟩
      ·omega
 ·cases hsrc;exact jd (P:=P) H.wf hv sz' [] rfl hok (fun s h=>by cases h)
 ·cases hsrc;exact jd (P:=P) H.wf hv sz' _ rfl hok (fun s h=>by cases h)
 ·cases hsrc
theorem mT(hT:TOK P cx.T)(H:FR c N U e h a w S β γ lam ω)(hd:∀t,o.dst=some t->t<N)(hU:∀g,gid<=g->g<gid+1000->¬U g){t u:TypeId}{x y:Operand}{cc:Call}(ho:o.op= .call cc)(hb:cc.callee= .builtin .append)(hts:cc.argTypes.toList=[t,u])(hxs:cc.args.toList=[x,y])(hu:eF cx.T u=true){as:List AV}{vx:Value}{g0:Option Nat}{r Y:AV}(hav:a.eval x=vx)(hx:VR S β (.sl as) vx)(hfree:(g0=none/\vx= .slice none 0 0)\/∃g z,g0=some g/\jK S w ω g z vx/\o9 z (bV cx.T t)=true)(happ:cZ cx.T t (.sl as) Y=some r)(hsrc:pm P S β w (a.eval y) Y):
  After P c N (UG U gid) (.ok (e.upd o.dst { Upd.own r gid (bV cx.T t)with drop:=g0 }) h) o a w:=by
 obtain⟨ti,el,ei,bs,ht,hk,hei,hels,hoa,hob,hby,hb0,rfl,hes,hstr⟩:=vU happ;rw[hes]at hfree |-;have hroom:kN w ei.size vx:=by
  rcases hfree with⟨_,rfl⟩|⟨g,z,_,hf,hz⟩
  ·exact⟨none,0,0,rfl,FZ _,fun _=>rfl,.inl rfl⟩
  ·exact (nq hf hz).1
 obtain⟨hlen,cs,hflat,hfirst⟩:=hsrc ei.size bs hels hob (nW hstr);obtain⟨v,w',hrun,hA⟩:=ru (ty:=o.type) hT H.wf ht hk hei hu hx hlen hflat hfirst hoa hby hb0 hroom;have hfr2:∃z,((g0=none/\vx= .slice none 0 0)\/∃g,g0=some g/\jK S w ω g z vx)/\(z=none\/z=some ei.size):=by
  rcases hfree with h1|⟨g,z,h1,hf,hz⟩
  ·exact⟨none,.inl h1,.inl rfl⟩
  ·exact⟨z,.inr ⟨g,h1,hf⟩,(nq hf hz).2⟩
 obtain⟨z,hf2,hz2⟩:=hfr2;obtain⟨S',ω',F⟩:=H.app hd hU hx hoa hf2 hz2 hA;exact After.val (cV ho hb hts hxs (by rw[hav];exact hrun)) ⟨_,_,_,_,_,F⟩
end
end Go.Av
namespace Go.Av
variable [Dr]
section
variable {P:Program} {cx:Cx} {c:Entry} {N:Nat} {U:Nat->Prop} {e:Env} {h:Hp} {a:Act} {w:World} {S:am} {β:List a7} {γ:Nat->Value} {lam:Nat->Option Nat} {ω:Nat->Owner} {o:Oper} {gid:Nat}
omit [Dr]in
theorem lC{sz:Nat}{x:Array Value}:(es:List AV)->(off:Nat)->(∀(i:Nat)(e:AV),es[i]? = some e->∃v,VR S β e v/\v.cells.size=sz/\∀(j:Nat)(y:Value),v.cells[j]? = some y->x[off+i*sz+j]? = some y)->
  cJ sz es=true->(es.flatMap ab).length=es.length*sz/\aP S β (es.flatMap ab) ((x.toList.drop off).take (es.length*sz))
 |[],off,_,_=>by simp[aP]
 | e:: es,off,hh,hok=>by
  simp only[cJ,GR,FV]at hok;obtain⟨v,v1,v2,v3⟩:=hh 0 e (by simp);obtain⟨k1,k2,k3⟩:=ej hok.1 v1;obtain⟨h1,h2⟩:=lC es (off+sz) (fun i e' he=>by
   obtain⟨u,u1,u2,u3⟩:=hh (i+1) e' (by simpa using he);exact⟨u,u1,u2,fun j y hy=>by
    have:=u3 j y hy
    rwa [show off+(i+1)*sz+j=off+sz+i*sz+j by rw[Gy];omega]at this⟩) hok.2
  have hacl:(ab e).length=sz:=by rw[<- k2.length];simpa using k1
  refine⟨by simp[h1,hacl,Gy];omega,?_⟩;have hfirst:(x.toList.drop off).take sz=v.cells.toList:=by
   apply H8;intro j;rw[Gg];split
   ·rename_i hj;rw[GO,GJ,GJ];have:j<v.cells.size:=by omega
    have hv:=v3 j v.cells[j] (G2 this);simp only[HC,GX]at hv;rw[hv,G2 this]
   ·rename_i hj;rw[F8];simp;omega
  have hsplit:(x.toList.drop off).take ((e:: es).length*sz)=v.cells.toList++(x.toList.drop (off+sz)).take (es.length*sz):=by
   rw[<- hfirst,Ge,Gy,Nat.one_mul,Nat.add_comm (es.length*sz) sz,List.take_add,List.drop_drop]
  rw[hsplit,H9];exact k2.append h2
inductive AppRaw (w:World) (el sz n0 n:Nat) (olds news:List Value) (vx:Value):Value->World->Prop where
 |same (h:n=0):AppRaw w el sz n0 n olds news vx vx w
 | place (b off cap:Nat) (x:Array Value) (hv:vx= .slice (some ⟨b,off,none⟩) n0 cap) (hr:Row w b x) (hlt:n0+n<=cap) (hc:off+cap*sz<=x.size) (hn:n≠0):
   AppRaw w el sz n0 n olds news vx (.slice (some ⟨b,off,none⟩) (n0+n) cap)
    (w.setRow b (x.toList.take (off+n0*sz)++news++x.toList.drop (off+n0*sz+news.length)).toArray)
 | fresh (x:Array Value) (e cap:Nat) (hlt:n0+n<=cap) (hc:x.size=cap*sz) (hr:∀(i:Nat)(y:Value),(olds++news)[i]? = some y->x[i]? = some y) (hn:n≠0) (he:e=el):
   AppRaw w el sz n0 n olds news vx (.slice (some ⟨w.heap.size,0,none⟩) (n0+n) cap) (w.drew.alloc (.cells x e))
omit [Dr]in
theorem dT{T:TT}(hT:TOK P T){t u e ty:Nat}{ti ei:TI}{n0 n:Nat}{olds news:List Value}{vx vy:Value}(ht:T t=some ti)(hk:ti.kind= .slice e)(hei:T e=some ei)(hu:eF T u=true)(hvx:∃a cap,vx= .slice a n0 cap)(hlen:(Builtin.lenOf vy).run P w= .ok n w)(hfirst:∀w':World,(∀a:Addr,w'.cell? a=w.cell? a)->(Builtin.firstCells ei.size n vy).run P w'= .ok news.toArray w')(hold:∀w':World,(∀a:Addr,w'.cell? a=w.cell? a)->(Builtin.firstCells ei.size n0 vx).run P w'= .ok olds.toArray w')(hol:olds.length=n0*ei.size)(hnl:news.length=n*ei.size)(hone:∀x∈news,x.oneCell'=true)(hby:(n0+n)*ei.bytes<=140737488355328)(hb0:0<ei.bytes)(hroom:kN w ei.size vx):
  ∃v w',(Builtin.append_ #[t,u] ty #[vx,vy]).run P w= .ok v w'/\AppRaw w e ei.size n0 n olds news vx v w':=by
 obtain⟨_,d,_,_,hd,_,_,_,_,hkd,_⟩:=(hT.get ht).ex;have hd':d= .slice e:=by cases d<;>simp_all[kindOf]
 subst hd';obtain⟨ii,_,zz,hii,_,hzz,hzs,hsz,hbb,_⟩:=(hT.get hei).ex;have hz:∃du,P.underlying u=some du/\((∃e',du= .slice e')\/du= .string):=by
  unfold eF at hu;split at hu
  ·rename_i tu htu;obtain⟨_,du,_,_,hdu,_,_,_,_,hku,_⟩:=(hT.get htu).ex;refine⟨du,hdu,?_⟩;split at hu
   ·rename_i e' hk';exact .inl ⟨e',by cases du<;>simp_all[kindOf]⟩
   ·exact .inr (by cases du<;>simp_all[kindOf])
   ·simp at hu
  ·simp at hu
 obtain⟨du,hdu,hduk⟩:=hz;obtain⟨a,len,cap,rfl,hlc,hnone,hspare⟩:=hroom;obtain⟨a',cap',he⟩:=hvx;simp only[Value.slice.injEq]at he;obtain⟨rfl,rfl,rfl⟩:=he;by_cases hfit:len+n<=cap
 ·by_cases hn0:n=0
  ·subst hn0;refine⟨.slice a len cap,w,?_,.same rfl⟩;have hns:news=[]:=Gi (by simpa using hnl);subst hns;have hf:(Builtin.firstCells ei.size 0 vy).run P w= .ok #[] w:=by simpa using hfirst w (fun _=>rfl)
   rcases hduk with⟨e',rfl⟩|rfl<;>cases a <;>
    simp[Builtin.append_,run_underlying hd,run_underlying hdu,sizeOf,typeInfo,hii,hsz,hlen,hlc,hf,storeCells]
  ·rcases hspare with hsp|⟨b,off,x,rfl,⟨ce,hrow⟩,hcap⟩
   ·omega
   ·refine⟨_,_,?_,.place b off cap x rfl ⟨ce,hrow⟩ hfit hcap hn0⟩;have hf:=hfirst w (fun _=>rfl);have hle:(len+n)*ei.size<=cap*ei.size:=Gc _ hfit;rw[Gy]at hle;have hst:=run_storeCells_at P b (off+len*ei.size) ce news 0 x w hrow (by omega) hone;simp only[GX]at hst;rcases hduk with⟨e',rfl⟩|rfl <;>
     simp[Builtin.append_,run_underlying hd,run_underlying hdu,sizeOf,typeInfo,hii,hsz,hlen,hfit,hf,addr_add,hst]
 ·have hne:n≠0:=by rintro rfl;omega
  have hgt:cap<len+n:=by omega
  have h63:¬(9223372036854775807<((len:Int)+(n:Int))):=by
   have:=He (Im (len+n) hb0) hby
   omega
  have hfit48:=growslice_fits hgt hby;have h48:¬(281474976710656<Builtin.nextslicecap (len+n) cap*ei.bytes):=by omega
  have hb0':ei.bytes≠0:=by omega
  have hof:=hold w.drew (fun a=>World.cell?_drew ..);have hf:=hfirst w.drew (fun a=>World.cell?_drew ..);have hcapn:len+n<=grownCap w (len+n) cap e:=Nat.le_add_right _ _;have hzcs:(Builtin.zeroCells zz.cells (grownCap w (len+n) cap e-(len+n))).size=(grownCap w (len+n) cap e-(len+n))*ei.size:=by
   rw[size_zeroCells,hzs,hsz]
  refine⟨_,_,?_,.fresh ((olds++news).toArray++Builtin.zeroCells zz.cells (grownCap w (len+n) cap e-(len+n))) e (grownCap w (len+n) cap e) hcapn ?_ ?_ hne rfl⟩
  ·rcases hduk with⟨e',rfl⟩|rfl <;>
    (simp[Builtin.append_,run_underlying hd,run_underlying hdu,sizeOf,typeInfo,zeroValue,hii,hsz,hzz,hlen,hfit,hbb,h48,hb0',Question.forced,hf,hof,newRow,grownCap]
     congr 2;apply Hl;simp)
  ·rw[Array.size_append,hzcs];simp only[List.size_toArray,Gh,hol,hnl];rw[<- Gy,<- Gy];congr 1;omega
  ·intro i y hy;rw[Array.getElem?_append];split
   ·simpa using hy
   ·rename_i hlt;rw[F8 (by simpa using hlt)]at hy;simp at hy
end
end Go.Av
namespace Go.Av
variable [Dr]
section
variable {P:Program} {cx:Cx} {c:Entry} {N:Nat} {U:Nat->Prop} {e:Env} {h:Hp} {a:Act} {w:World} {S:am} {β:List a7} {γ:Nat->Value} {lam:Nat->Option Nat} {ω:Nat->Owner} {o:Oper} {gid:Nat}
omit [Dr]in
theorem kz{es:List AV}{cs:List Value}{sz:Nat}(hf:cb S β es cs sz)(hok:cJ sz es=true):(es.flatMap ab).length=es.length*sz/\aP S β (es.flatMap ab) cs:=by
 obtain⟨h1,h2,_⟩:=hf;obtain⟨g1,g2⟩:=lC (x:=cs.toArray) es 0 (fun i e he=>by
  obtain⟨v,v1,v2,v3⟩:=h2 i e he;exact⟨v,v1,v2,fun j y hy=>by rw[GP];exact v3 j y hy⟩) hok
 refine⟨g1,?_⟩;have:(cs.toArray.toList.drop 0).take (es.length*sz)=cs:=by simp[<- h1]
 rw[this]at g2;exact g2
theorem ue(hT:TOK P cx.T)(H:FR c N U e h a w S β γ lam ω)(hd:∀t,o.dst=some t->t<N){t n:Nat}{ps:Array (Nat×Operand)}(ho:o.op= .buildSlice t n ps)(ht:∀p∈ps.toList,∀t,p.2= .tmp t->t<1000)(hr:aG e o.dst (.dyn (ov cx.T t n (ps.toList.map fun p=>(p.1,opnd e p.2))) .ofV) h≠.fail):
  After P c N (UG U gid) (aG e o.dst (.dyn (ov cx.T t n (ps.toList.map fun p=>(p.1,opnd e p.2))) .ofV) h) o a w:=absurd rfl hr
theorem xj(hT:TOK P cx.T)(H:FR c N U e h a w S β γ lam ω)(hd:∀t,o.dst=some t->t<N){t:Nat}{l k:Operand}(ho:o.op= .makeSlice t l k)(hl:∀t,l= .tmp t->t<1000)(hk:∀t,k= .tmp t->t<1000)(hr:aG e o.dst (.dyn (tz cx.T t (opnd e l) (opnd e k)) .ofV) h≠.fail):
  After P c N (UG U gid) (aG e o.dst (.dyn (tz cx.T t (opnd e l) (opnd e k)) .ofV) h) o a w:=absurd rfl hr
theorem yi(hT:TOK P cx.T)(H:FR c N U e h a w S β γ lam ω)(hd:∀t,o.dst=some t->t<N){t u:TypeId}{x y:Operand}{cc:Call}(ho:o.op= .call cc)(hb:cc.callee= .builtin .append)(hts:cc.argTypes.toList=[t,u])(hxs:cc.args.toList=[x,y])(hx:∀t,x= .tmp t->t<1000)(hy:∀t,y= .tmp t->t<1000)(hu:eF cx.T u=true)(hr:aG e o.dst (.dyn (appH cx.T t (eM e x) (opnd e x) (opnd e y)) .ofV) h≠.fail):After P c N (UG U gid) (aG e o.dst (.dyn (appH cx.T t (eM e x) (opnd e x) (opnd e y)) .ofV) h) o a w:=by
 have hvx:=aK H x hx;have hvy:=aK H y hy;simp only[aG,ae,M.pure]at hr |-
 have hz:eM e x=true->opnd e x= .sl []->∃a0,a.eval x= .slice a0 0 0:=by
  intro hz hX;unfold eM at hz;split at hz
  ·rename_i s;have hs1:=hx s rfl;have hs2:=H.slots s hs1;split at hz
   ·rename_i g hg;split at hz
    ·rename_i hal;obtain⟨a0,len,cap,e1,e2,e3,e4⟩:=H.free g none hal;have e5:=H.grps s g none hs1 hg hal;have e6:a.eval (.tmp s)=γ g:=e5;rw[hX]at hvx;simp only[VR]at hvx;obtain⟨a1,cap1,f1,f2,f3,_⟩:=hvx;rw[e6,e1]at f1;cases f1;rcases e4 with e4|⟨sz,_,_,_,e4,_⟩
     ·simp only[GM]at e4;subst e4;exact⟨a0,by rw[e6,e1];rfl⟩
     ·cases e4
    ·cases hz
   ·cases hz
  ·cases hz
 generalize eM e x=zz at hr hz |-;generalize hX:opnd e x=X at hr hvx hz |-;unfold appH at hr |-;cases ht:cx.T t with
 |none=>rw[ht]at hr;exact absurd rfl hr
 | some ti =>
  rw[ht]at hr;simp only at hr |-;cases hk:ti.kind<;>rw[hk]at hr<;>simp only at hr |- <;> (try exact absurd rfl hr);rename_i el;cases hei:cx.T el with
  |none=>rw[hei]at hr;exact absurd rfl hr
  | some ei =>
   rw[hei]at hr;simp only at hr |-;cases hels:g7 (opnd e y)with
   |none=>rw[hels]at hr;exact absurd rfl hr
   | some bs =>
    rw[hels]at hr;simp only at hr |-;cases hc:(cJ ei.size bs&&decide (0<ei.bytes)&&decide (0<ei.size)&&mq (opnd e y) ei.size)with
    |false=>rw[hc]at hr;exact absurd rfl hr
    | true =>
     rw[hc]at hr;simp only[FW]at hr |-;simp only[FV,F5]at hc;obtain⟨⟨⟨h1,h2⟩,h3⟩,h4⟩:=hc;obtain⟨hlen,news,hflat,hfirst⟩:=src_ok (P:=P) H.wf hels hvy h1 (nW h4);obtain⟨hfl,hfv⟩:=kz hflat h1;have hfirst':∀w':World,(∀a:Addr,w'.cell? a=w.cell? a)->(Builtin.firstCells ei.size bs.length (a.eval y)).run P w'= .ok news.toArray w':=fun w' hw'=>
      hfirst w' (fun b o x hx=>by rw[hw'];exact H.wf b o x hx)
     have hna:ei.agg=false->ei.size=1:=by
      intro hag;obtain⟨ii,_,zz,_,_,_,hzs,hsz,_,_,_,_,_,_,_,hnn⟩:=(hT.get hei).ex;have hz1:zz.cells.size=1:=by cases zz<;>first|rfl|exact absurd rfl (hnn hag _)
      omega
     by_cases hXs:X= .sl []/\zz=true
     ·obtain⟨rfl,hzz⟩:=hXs;subst hzz;simp only[FW]at hr |-;obtain⟨a0,hvx0⟩:=hz rfl rfl;have hvr:=hvx
      replace hvx:=hvx0
      cases hbe:bs.isEmpty with
      | true=>
       have hbs:bs=[]:=by simpa using hbe
       subst hbs;simp only[FW];obtain⟨v,w',hrun,hA⟩:=dT (ty:=o.type) hT ht hk hei hu (n0:=0) (olds:=[]) ⟨a0,0,hvx⟩ hlen hfirst' (fun w' _=>by rw[hvx];cases a0 with|none=>simp[Builtin.firstCells]|some q=>exact run_firstCells_some w' _ 0 q 0 0 [] (by simp) (fun j x hx=>by simp at hx)) (by simp) hflat.1 hflat.2.2 (by simp) h2
        (by rw[hvx];exact⟨a0,0,0,rfl,FZ _,fun _=>rfl,.inl rfl⟩)
       cases hA with
       |same _=>
        exact After.val (cV ho hb hts hxs hrun) (Fy ⟨S,β,γ,lam,ω,H.setV hd hvr⟩)
       |place _ _ _ _ _ _ _ _ hn=>exact absurd rfl hn
       |fresh _ _ _ _ _ _ hn=>exact absurd rfl hn
      | false=>
       rw[hbe]at hr;simp only[F0]at hr |-;cases hby:decide (bs.length*ei.bytes<=140737488355328)with
       |false=>rw[hby]at hr;exact absurd rfl hr
       | true=>
        simp only[FW];have hne:bs.length≠0:=by
         intro h0
         have:=Gi h0
         subst this;simp at hbe
        obtain⟨v,w',hrun,hA⟩:=dT (ty:=o.type) hT ht hk hei hu (n0:=0) (olds:=[]) ⟨a0,0,hvx⟩ hlen hfirst' (fun w' _=>by rw[hvx];cases a0 with|none=>simp[Builtin.firstCells]|some q=>exact run_firstCells_some w' _ 0 q 0 0 [] (by simp) (fun j x hx=>by simp at hx)) (by simp) hflat.1 hflat.2.2 (by simpa using hby) h2
         (by rw[hvx];exact⟨a0,0,0,rfl,FZ _,fun _=>rfl,.inl rfl⟩)
        cases hA with
        |same h0=>exact absurd h0 hne
        |place b off cap z hv _ hlt _ _=>rw[hvx]at hv;cases hv;omega
        | fresh z te cap hlt hzc hzr hn=>
         obtain⟨ω',F,hnew,hext⟩:=(H.drew).newH z te (cs:=bs.flatMap ab) (by
          refine .of_get ?_ fun i q v hq hv=>?_
          ·have:bs.length*ei.size<=cap*ei.size:=Gc _ (by omega);rw[Hd];apply Hw;have hz':z.toList.length=cap*ei.size:=by simpa using hzc
           have hfl':(bs.flatMap ab).length=bs.length*ei.size:=hfl;rw[hz',hfl'];exact this
          ·obtain⟨v',h1',h2'⟩:=hfv.get hq
           have:=hzr i v' (by simpa using h1')
           rw[Gg]at hv;split at hv
           ·rw[GJ,this]at hv;cases hv;exact h2'
           ·simp at hv) (fun t ht=>absurd ht (gB h1 t))
         have hnew':(β++[(w.drew.heap.size,z.size)])[h.length]? = some (w.heap.size,z.size):=hnew;refine After.val (cV ho hb hts hxs hrun) (Fy ⟨_,_,γ,lam,ω',F.setV hd ?_⟩);simp only[VR];have hz0:z.size≠0:=by
          have:0<cap*ei.size:=HJ (by omega) h3;omega
         exact .inl ⟨(w.heap.size,z.size),cap,hnew',hz0,by simp,by omega,by simp[hzc]⟩
     by_cases hXn:X= .hn
     ·subst hXn;simp only at hr |-;simp only[VR]at hvx;cases hbe:bs.isEmpty with
      | true=>
       have hbs:bs=[]:=by simpa using hbe
       subst hbs;simp only[FW];obtain⟨v,w',hrun,hA⟩:=dT (ty:=o.type) hT ht hk hei hu (n0:=0) (olds:=[]) ⟨none,0,hvx⟩ hlen hfirst' (fun w' _=>by rw[hvx];simp[Builtin.firstCells]) (by simp) hflat.1 hflat.2.2 (by simp) h2
        (by rw[hvx];exact⟨none,0,0,rfl,FZ _,fun _=>rfl,.inl rfl⟩)
       cases hA with
       |same _=>
        exact After.val (cV ho hb hts hxs hrun) (Fy ⟨S,β,γ,lam,ω,H.setV hd (by simp only[VR];exact hvx)⟩)
       |place _ _ _ _ _ _ _ _ hn=>exact absurd rfl hn
       |fresh _ _ _ _ _ _ hn=>exact absurd rfl hn
      | false=>
       rw[hbe]at hr;simp only[F0]at hr |-;cases hby:decide (bs.length*ei.bytes<=140737488355328)with
       |false=>rw[hby]at hr;exact absurd rfl hr
       | true=>
        simp only[FW];have hne:bs.length≠0:=by
         intro h0
         have:=Gi h0
         subst this;simp at hbe
        obtain⟨v,w',hrun,hA⟩:=dT (ty:=o.type) hT ht hk hei hu (n0:=0) (olds:=[]) ⟨none,0,hvx⟩ hlen hfirst' (fun w' _=>by rw[hvx];simp[Builtin.firstCells]) (by simp) hflat.1 hflat.2.2 (by simpa using hby) h2
         (by rw[hvx];exact⟨none,0,0,rfl,FZ _,fun _=>rfl,.inl rfl⟩)
        cases hA with
        |same h0=>exact absurd h0 hne
        |place b off cap z hv _ _ _ _=>rw[hvx]at hv;cases hv
        | fresh z te cap hlt hzc hzr hn=>
         obtain⟨ω',F,hnew,hext⟩:=(H.drew).newH z te (cs:=bs.flatMap ab) (by
          refine .of_get ?_ fun i q v hq hv=>?_
          ·have:bs.length*ei.size<=cap*ei.size:=Gc _ (by omega);rw[Hd];apply Hw;have hz':z.toList.length=cap*ei.size:=by simpa using hzc
           have hfl':(bs.flatMap ab).length=bs.length*ei.size:=hfl;rw[hz',hfl'];exact this
          ·obtain⟨v',h1',h2'⟩:=hfv.get hq
           have:=hzr i v' (by simpa using h1')
           rw[Gg]at hv;split at hv
           ·rw[GJ,this]at hv;cases hv;exact h2'
           ·simp at hv) (fun t ht=>absurd ht (gB h1 t))
         have hnew':(β++[(w.drew.heap.size,z.size)])[h.length]? = some (w.heap.size,z.size):=hnew;refine After.val (cV ho hb hts hxs hrun) (Fy ⟨_,_,γ,lam,ω',F.setV hd ?_⟩);simp only[VR];have hz0:z.size≠0:=by
          have:0<cap*ei.size:=HJ (by omega) h3;omega
         exact .inl ⟨(w.heap.size,z.size),cap,hnew',hz0,by simp,by omega,by simp[hzc]⟩
     ·-- a row of the heap
      cases X with
      | hs l off len sz ag=>
       cases off with
       |succ k=>exact absurd rfl hr
       | zero =>
        simp only at hr |-;cases hcs:h[l]? with
        |none=>rw[hcs]at hr;exact absurd rfl hr
        | some cs=>
         rw[hcs]at hr;simp only at hr |-;cases hc2:(sz== ei.size&&ag== ei.agg&&cs.all be&&decide (len*sz<=cs.length)&&decide (0<cs.length)&&decide ((len+bs.length)*ei.bytes<=140737488355328))with
         |false=>rw[hc2]at hr;exact absurd rfl hr
         | true=>
          simp only[FW];simp only[FV,F5,GG]at hc2;obtain⟨⟨⟨⟨⟨rfl,rfl⟩,k3⟩,k4⟩,k5⟩,k6⟩:=hc2;have hvx0:=hvx;have hne:cs≠[]:=by
           rintro rfl;simp at k5
          have hl:l<h.length:=by
           rcases Gd l h.length with h'|h'
           ·exact h'
           ·rw[F8 h']at hcs;simp at hcs
          simp only[VR]at hvx;rcases hvx with⟨⟨b,nb⟩,cap,hβ,hb0,hvx,hlc,hcn⟩|⟨h00,q,hvx⟩
          ·obtain⟨z,j1,j2,j3,j4,j5⟩:=H.heap.cells hcs hne hβ hb0;rw[hβ]at j1;simp only[FU,GN,Iw]at j1;subst j1;have hzs:cs.length<=z.size:=by have:=j4.length;simp at this;omega
           have hol:(z.toList.take (len*ei.size)).length=len*ei.size:=by simp;omega
           have j6:aP S β (cs.take (len*ei.size)) (z.toList.take (len*ei.size)):=by
            have:=j4.take (len*ei.size)
            rw[HF,Hw k4]at this;exact this
           have hcl:(cs.take (len*ei.size)).length=len*ei.size:=by simp;omega
           have hold:∀w':World,(∀a:Addr,w'.cell? a=w.cell? a)->(Builtin.firstCells ei.size len (a.eval x)).run P w'= .ok (z.toList.take (len*ei.size)).toArray w':=fun w' hw'=>by
            rw[hvx];refine run_firstCells_some w' ei.size len ⟨b,0,none⟩ len cap _ hol fun j q hq=>?_;rw[addr_add,GP,hw',j2.cell];rw[Gg]at hq;split at hq
            ·simpa using hq
            ·simp at hq
           have hroom:kN w ei.size (a.eval x):=⟨_,len,cap,hvx,hlc,(fun h=>by cases h),.inr ⟨b,0,z,rfl,j2,hcn⟩⟩;obtain⟨v,w',hrun,hA⟩:=dT (ty:=o.type) hT ht hk hei hu (n0:=len) (olds:=z.toList.take (len*ei.size)) ⟨_,cap,hvx⟩ hlen hfirst' hold hol hflat.1 hflat.2.2 k6 h2 hroom;have hexec:=cV ho hb hts hxs hrun;cases hA with
           |same h0=>
            have hbs:bs=[]:=Gi h0;subst hbs;simp only[List.isEmpty_nil,FW];exact After.val hexec (Fy ⟨S,β,γ,lam,ω,H.setV hd hvx0⟩)
           | place b2 off2 cap2 z2 hv2 hr2 hlt2 hc2' hn2=>
            have hbe:bs.isEmpty=false:=by cases bs<;>simp_all
            rw[hbe];simp only[F0];rw[hvx]at hv2;simp only[Value.slice.injEq,FU,Addr.mk.injEq]at hv2;obtain⟨⟨rfl,rfl,_⟩,_,rfl⟩:=hv2;cases j2.inj hr2;have hnl:=hflat.1;have hle:(len+bs.length)*ei.size<=cap*ei.size:=Gc _ hlt2;rw[Gy]at hle;have hysz:(z.toList.take (0+len*ei.size)++news++z.toList.drop (0+len*ei.size+news.length)).toArray.size=z.size:=by simp;omega
            have hyv:aP S β (cs.take (len*ei.size)++bs.flatMap ab) ((z.toList.take (0+len*ei.size)++news++z.toList.drop (0+len*ei.size+news.length)).toArray.toList.take (cs.take (len*ei.size)++bs.flatMap ab).length):=by
             have hl1:(z.toList.take (0+len*ei.size)++news).length=(cs.take (len*ei.size)++bs.flatMap ab).length:=by
              rw[Gh,Gh,GP,hol,hcl,hfl,hnl]
             show aP S β _ (List.take _ (z.toList.take (0+len*ei.size)++news++z.toList.drop (0+len*ei.size+news.length)));rw[List.take_left' hl1,GP];exact j6.append hfv
            have hne2:cs.take (len*ei.size)++bs.flatMap ab≠[]:=by
             intro h0;have h1':=(List.append_eq_nil_iff.1 h0).2;rw[h1']at hfl;have:0<bs.length*ei.size:=HJ (Nat.pos_of_ne_zero fun h=>by rw[Gi h]at hbe;cases hbe) h3;rw[GM]at hfl;omega
            have hnb:∀t,¬cd t (cs.take (len*ei.size)++bs.flatMap ab):=fun t ht=>by
             rcases ht.append with ht|ht
             ·exact jv k3 t (ht.mono fun a=>Hr)
             ·exact gB h1 t ht
            have F1:=H.turnH hcs hne ⟨_,hβ⟩ j2 hysz hyv (fun t ht=>absurd ht (hnb t));have hcs1:(h.set l (cs.take (len*ei.size)++bs.flatMap ab))[l]? = some (cs.take (len*ei.size)++bs.flatMap ab):=by simp[hl]
            obtain⟨ω',F2,hnew,hext⟩:=F1.moveH hcs1 hne2 ⟨_,hβ⟩ j2.setRow hyv (fun t ht=>ht);have hset:(h.set l (cs.take (len*ei.size)++bs.flatMap ab)).set l []=h.set l []:=by simp
            rw[hset]at F2;rw[HV]at hnew;refine After.val hexec (Fy ⟨_,_,γ,lam,ω',F2.setV hd ?_⟩);simp only[VR];exact .inl ⟨_,cap,hnew,by simp only;rw[hysz];exact hb0,rfl,hlt2,by simp only;rw[hysz];exact hcn⟩
           | fresh z2 te cap2 hlt2 hzc hzr hn2=>
            have hbe:bs.isEmpty=false:=by cases bs<;>simp_all
            rw[hbe];simp only[F0];have F1:=(H.drew).killH l;obtain⟨ω',F2,hnew,hext⟩:=F1.newH z2 te (cs:=cs.take (len*ei.size)++bs.flatMap ab) (by
             refine .of_get ?_ fun i q v hq hv=>?_
             ·have:(len+bs.length)*ei.size<=cap2*ei.size:=Gc _ hlt2;rw[Gy]at this;rw[Hd,Gh,hcl,hfl];apply Hw;have hz':z2.toList.length=cap2*ei.size:=by simpa using hzc
              omega
             ·obtain⟨v',h1',h2'⟩:=(j6.append hfv).get hq
              have:=hzr i v' h1'
              rw[Gg]at hv;split at hv
              ·rw[GJ,this]at hv;cases hv;exact h2'
              ·simp at hv) (fun t ht=>absurd ht (fun ht=>by
             rcases ht.append with ht|ht
             ·exact jv k3 t (ht.mono fun a=>Hr)
             ·exact gB h1 t ht))
            rw[HV]at hnew;have hnew':(β++[(w.drew.heap.size,z2.size)])[h.length]? = some (w.heap.size,z2.size):=hnew;refine After.val hexec (Fy ⟨_,_,γ,lam,ω',F2.setV hd ?_⟩);simp only[VR];have hz0:z2.size≠0:=by
             have:0<cap2*ei.size:=HJ (by omega) h3;omega
            exact .inl ⟨(w.heap.size,z2.size),cap2,hnew',hz0,rfl,hlt2,by simp[hzc]⟩
          ·subst h00;obtain⟨v,w',hrun,hA⟩:=dT (ty:=o.type) hT ht hk hei hu (n0:=0) (olds:=[]) ⟨some q,0,hvx⟩ hlen hfirst' (fun w' _=>by rw[hvx];exact run_firstCells_some w' _ 0 q 0 0 [] (by simp) (fun j x hx=>by simp at hx)) (by simp) hflat.1 hflat.2.2 k6 h2
            (by rw[hvx];exact⟨some q,0,0,rfl,FZ _,fun _=>rfl,.inl rfl⟩)
           have hexec:=cV ho hb hts hxs hrun;cases hA with
           |same h0=>
            have hbs:bs=[]:=Gi h0;subst hbs;simp only[List.isEmpty_nil,FW];exact After.val hexec (Fy ⟨S,β,γ,lam,ω,H.setV hd hvx0⟩)
           |place b off cap z hv _ hlt _ hn=>
            rw[hvx]at hv;cases hv;have:bs.length≠0:=hn;omega
           | fresh z2 te cap2 hlt2 hzc hzr hn2=>
            have hbe:bs.isEmpty=false:=by cases bs<;>simp_all
            rw[hbe];simp only[F0,HC,HY,GY];have F1:=(H.drew).killH l;obtain⟨ω',F2,hnew,hext⟩:=F1.newH z2 te (cs:=bs.flatMap ab) (by
             refine .of_get ?_ fun i q v hq hv=>?_
             ·have:bs.length*ei.size<=cap2*ei.size:=Gc _ (by omega);rw[Hd,hfl];apply Hw;have hz':z2.toList.length=cap2*ei.size:=by simpa using hzc
              omega
             ·obtain⟨v',h1',h2'⟩:=hfv.get hq
              have:=hzr i v' (by simpa using h1')
              rw[Gg]at hv;split at hv
              ·rw[GJ,this]at hv;cases hv;exact h2'
              ·simp at hv) (fun t ht=>absurd ht (gB h1 t))
            rw[HV]at hnew;have hnew':(β++[(w.drew.heap.size,z2.size)])[h.length]? = some (w.heap.size,z2.size):=hnew;refine After.val hexec (Fy ⟨_,_,γ,lam,ω',F2.setV hd ?_⟩);simp only[VR];have hz0:z2.size≠0:=by
             have:0<cap2*ei.size:=HJ (by omega) h3;omega
            exact .inl ⟨(w.heap.size,z2.size),cap2,hnew',hz0,by simp,by omega,by simp[hzc]⟩
      | sl es=>
       cases es with
       |nil=>
        cases zz with
        |true=>exact absurd ⟨rfl,rfl⟩ hXs
        |false=>exact absurd rfl hr
       |cons _ _=>exact absurd rfl hr
      |_=>first|exact absurd rfl hXn|exact absurd rfl hr
end
end Go.Av
namespace Go.Av
variable [Dr]
section
variable {P:Program} {cx:Cx} {c:Entry} {N:Nat} {U:Nat->Prop} {e:Env} {h:Hp} {a:Act} {w:World} {S:am} {β:List a7} {γ:Nat->Value} {lam:Nat->Option Nat} {ω:Nat->Owner} {o:Oper} {gid:Nat}
theorem yh(hT:TOK P cx.T)(H:FR c N U e h a w S β γ lam ω)(hd:∀t,o.dst=some t->t<N){t u:TypeId}{x y:Operand}{cc:Call}(ho:o.op= .call cc)(hb:cc.callee= .builtin .append)(hts:cc.argTypes.toList=[t,u])(hxs:cc.args.toList=[x,y])(hx:∀t,x= .tmp t->t<1000)(hy:∀t,y= .tmp t->t<1000)(hu:eF cx.T u=true)(hr:aG e o.dst (.dyn (yg cx.T t (opnd e x) (opnd e y)) .ofV) h≠.fail):After P c N (UG U gid) (aG e o.dst (.dyn (yg cx.T t (opnd e x) (opnd e y)) .ofV) h) o a w:=absurd rfl hr
end
end Go.Av
namespace Go.Av
variable [Dr]
section
variable {P:Program} {cx:Cx} {c:Entry} {N:Nat} {U:Nat->Prop} {e:Env} {h:Hp} {a:Act} {w:World} {S:am} {β:List a7} {γ:Nat->Value} {lam:Nat->Option Nat} {ω:Nat->Owner} {o:Oper} {gid:Nat}
theorem FR.putH(H:FR c N U e h a w S β γ lam ω){l off b nb:Nat}{cs acs:List AV}{vs:List Value}(hcs:h[l]? = some cs)(hne:cs≠[])(hb:β[l]? = some (b,nb))(hb0:nb≠0)(hvs:aP S β acs vs)(hle:off+acs.length<=cs.length)(htag:∀t,¬cd t acs):
  ∃z,Row w b z/\cs.length<=z.size/\FR c N U e (h.set l (setCells cs off acs)) a (w.setRow b (z.toList.take off++vs++z.toList.drop (off+vs.length)).toArray) S β γ lam ω:=by
 obtain⟨z,j1,j2,j3,j4,j5⟩:=H.heap.cells hcs hne hb hb0;rw[hb]at j1;cases j1;have hvl:=hvs.length;have hzs:cs.length<=z.size:=by
  have:=j4.length
  simp at this;omega
 refine⟨z,j2,hzs,H.turnH hcs hne ⟨_,hb⟩ j2 (by simp;omega) ?_ (fun t ht=>ht.setCells.resolve_right (htag t))⟩;rw[eH _ _ _ (by omega)];have hsp:aP S β (setCells cs off acs) (((z.toList.take cs.length).take off++vs++(z.toList.take cs.length).drop (off+vs.length))):=by
  unfold setCells;rw[hvl];exact ((j4.take off).append hvs).append (j4.drop _)
 have heq:(z.toList.take off++vs++z.toList.drop (off+vs.length)).take cs.length=
   (z.toList.take cs.length).take off++vs++(z.toList.take cs.length).drop (off+vs.length):=by
  rw[HL,HL];have e1:(z.toList.take off).length=off:=by simp;omega
  rw[HF,HF];have e2:min cs.length off=off:=by omega
  have e3:min off cs.length=off:=by omega
  rw[e2,e3,e1];have e4:vs.take (cs.length-off)=vs:=HH (by omega);rw[e4];congr 1;rw[List.take_drop,Gh,e1];congr 2;omega
 show aP S β _ (List.take _ _);rw[show (z.toList.take off++vs++z.toList.drop (off+vs.length)).toArray.toList=(z.toList.take off++vs++z.toList.drop (off+vs.length))from rfl,heq];exact hsp
theorem wk(hT:TOK P cx.T)(H:FR c N U e h a w S β γ lam ω)(hd:∀t,o.dst=some t->t<N){cc:Call}(ho:o.op= .call cc)(hcal:cc.callee= .builtin .clear){t:TypeId}{ts:List TypeId}{x:Operand}{xs:List Operand}(hts:cc.argTypes.toList=t:: ts)(hxs:cc.args.toList=x:: xs)(hx:∀t,x= .tmp t->t<1000)(hr:aG e o.dst (.dyn (oz cx.T t (opnd e x)) .ofV) h≠.fail):After P c N (UG U gid) (aG e o.dst (.dyn (oz cx.T t (opnd e x)) .ofV) h) o a w:=absurd rfl hr
end
end Go.Av
namespace Go.Av
variable [Dr]
def bB(p:Upd->Prop):Act1->Prop
 |.bad=>True
 |.stat u=>p u
 |.dyn _ sh=>∀v,p (sh v)
 |.thr _=>True
omit [Dr]in
theorem bB.cond{p:Upd->Prop}{b:Bool}{x y:Act1}(h1:b=true->bB p x)(h2:b=false->bB p y):bB p (bif b then x else y):=by
 cases b with
 |true=>exact h1 rfl
 |false=>exact h2 rfl
structure Shape (e:Env) (gid:Nat) (f:Foot) (ss:Option Nat) (u:Upd):Prop where
 ls:f.wl=false->u.ls=[]
 lb:f.wl=false->u.lb=none
 unlb:f.wl=false->u.unlb=none
 add:f.wl=false->∀x∈u.add,x.1=gid
 noad:f.ad=false->u.add=[]
 nodr:f.dr=false->u.drop=none
 loc:f.wl=false->∀C off,u.ent.v= .loc C off->∃t off',(e.get t).v= .loc C off'
 keys:∀x∈u.ls,1000<=x.1\/ss=some x.1
omit [Dr]in
theorem Shape.ofV(e:Env)(gid:Nat)(f:Foot)(ss:Option Nat)(a:AV):Shape e gid f ss (.ofV a):=
 ⟨fun _=>rfl,fun _=>rfl,fun _=>rfl,fun _ x h=>by simp[Upd.ofV]at h,fun _=>rfl,fun _=>rfl,fun _ C off h=>by simp[Upd.ofV]at h,fun x h=>by simp[Upd.ofV]at h⟩
omit [Dr]in
theorem Shape.own(e:Env)(gid:Nat)(f:Foot)(ss:Option Nat)(a:AV)(z:Option Nat)(h:f.ad=true):Shape e gid f ss (.own a gid z):=
 ⟨fun _=>rfl,fun _=>rfl,fun _=>rfl,fun _ x h=>by simp[Upd.own]at h;rw[h],fun h'=>by(rw[h]at h';cases h'),fun _=>rfl,fun _ C off h=>by simp[Upd.own]at h,fun x h=>by simp[Upd.own]at h⟩
omit [Dr]in
theorem Shape.ent(e:Env)(gid:Nat)(f:Foot)(ss:Option Nat)(x:Ent)(h:∀C off,x.v= .loc C off->∃t off',(e.get t).v= .loc C off'):Shape e gid f ss { ent:=x } :=
 ⟨fun _=>rfl,fun _=>rfl,fun _=>rfl,fun _ x h=>by simp at h,fun _=>rfl,fun _=>rfl,fun _ C off h'=>h C off h',fun x h=>by simp at h⟩
omit [Dr]in
theorem Shape.get(e:Env)(gid:Nat)(f:Foot)(ss:Option Nat)(t:Nat):Shape e gid f ss { ent:=e.get t }:=.ent _ _ _ _ _ fun _ off h=>⟨t,off,h⟩
omit [Dr]in
theorem jq{B n gid:Nat}{cs:List AV}{offs:List Nat}(hB:1000<=B):∀x∈gz B cs offs gid n,1000<=x.1:=by
 intro x hx;unfold gz at hx;simp only[HD]at hx;obtain⟨i,_,rfl⟩:=hx;simp only;omega
omit [Dr]in
theorem qf{offs:List Nat}{gid:Nat}(h:offs.isEmpty=true):kA offs gid=[]:=by
 have:offs=[]:=by simpa using h
 subst this;rfl
variable {cx:Cx} {e:Env} {gid:Nat} {o:Oper}
omit [Dr]in
theorem lY(told:Bool)(x:Operand)(f:Foot)(hf:f.ad=aN x):bB (Shape e gid f none) (e8 told e gid x):=by
 unfold e8;split
 ·exact Shape.get ..
 ·cases h:aN x with
  |true=>
   cases told with
   |true=>exact Shape.ofV ..
   |false=>exact Shape.own _ _ _ _ _ _ (by rw[hf,h])
  |false=>exact Shape.ofV ..
omit [Dr]in
theorem qk{e:Env}{B off n:Nat}(h:gW e B off n=true):∃m,aW e.lb B=some m/\off+n<=m/\1000<=B:=by
 unfold gW at h;split at h
 ·rename_i m hm;simp at h;exact⟨m,hm,h.1,h.2⟩
 ·simp at h
omit [Dr]in
theorem lR(d:Option Tmp)(t:TypeId)(p:Nat)(f:Foot):bB (Shape e gid f none) (cK cx e d t p):=by
 unfold cK;split
 ·split
  ·trivial
  ·cases gW e _ _ _ with
   |false=>trivial
   | true=>
    simp only[FW];rename_i ti _;cases ti.agg with
    |true=>exact Shape.ofV ..
    |false=>
     simp only[F0];cases decide (ti.size=1)with
     |true=>exact Shape.get ..
     |false=>trivial
 ·cases bd cx.ann.hl d with
  |true=>exact fun v=>Shape.ofV ..
  |false=>exact fun v=>Shape.ofV ..
omit [Dr]in
theorem Shape.wl{e:Env}{gid:Nat}{f:Foot}{ss:Option Nat}{u:Upd}(hw:f.wl=true)(h1:f.ad=false->u.add=[])(h2:u.drop=none)(h3:∀x∈u.ls,1000<=x.1\/ss=some x.1):Shape e gid f ss u:=
 ⟨fun h=>by(rw[hw]at h;cases h),fun h=>by(rw[hw]at h;cases h),fun h=>by(rw[hw]at h;cases h),fun h=>by(rw[hw]at h;cases h),h1,fun _=>h2,fun h=>by(rw[hw]at h;cases h),h3⟩
omit [Dr]in
theorem q9(t p:Nat)(y:Operand)(f:Foot)(hw:f.wl=true)(ha:f.ad=(!(dC cx.ann.nils p).isEmpty||aN y)):bB (Shape e gid f (some p)) (dN cx e gid t p y):=by
 unfold dN;split
 ·rename_i B off _;split
  ·trivial
  ·rename_i ti _;cases hlb:gW e B off ti.size with
   |false=>trivial
   | true=>
    obtain⟨m,_,_,hB⟩:=qk hlb;simp only[FW];cases uF (bv cx.ann.kinds p .L)with
    | true=>
     simp only[FW];cases iy e B off p ti.size with
     |false=>trivial
     |true=>
      simp only[FW];exact fun v=>Shape.wl hw (fun _=>rfl) rfl (fun x hx=>by simp at hx;exact .inr (by rw[hx]))
    | false=>
     simp only[F0];cases ti.agg with
     |true=>
      simp only[FW];refine fun v=>Shape.wl hw (fun h=>?_) rfl (fun x hx=>.inl (jq (by omega) x hx));rw[ha]at h;simp only[Hc,H3]at h;exact qf h.1
     | false=>
      simp only[F0];cases decide (ti.size=1)with
      |false=>trivial
      | true=>
       simp only[FW];split
       ·split
        ·exact fun v=>Shape.wl hw (fun _=>rfl) rfl (fun x hx=>by simp at hx;rw[hx];exact .inl (by simp only;omega))
        ·trivial
       ·cases hn:aN y with
        |true=>
         refine Shape.wl hw (fun h=>?_) rfl (fun x hx=>by simp at hx;rw[hx];exact .inl (by simp only;omega));rw[ha,hn]at h;simp at h
        |false=>exact fun v=>Shape.wl hw (fun _=>rfl) rfl (fun x hx=>by simp at hx;rw[hx];exact .inl (by simp only;omega))
 ·exact fun v=>Shape.ofV ..
omit [Dr]in
theorem pT(t p i:Nat)(f:Foot):bB (Shape e gid f none) (eN cx e t p i):=by
 unfold eN;split
 ·rename_i B off hv;split
  ·trivial
  ·split
   ·trivial
   ·split
    ·trivial
    ·rename_i fi _;cases decide (fi.size=0)with
     |true=>trivial
     |false=>exact Shape.ent _ _ _ _ _ fun C o' h=>⟨p,off,by simp at h;rw[hv,h.1]⟩
 ·exact fun v=>Shape.ofV ..
omit [Dr]in
theorem qn(t p:Nat)(i:Operand)(f:Foot):bB (Shape e gid f none) (cp cx e t p i):=by
 unfold cp;split
 ·rename_i B off hv;split
  ·split
   ·split
    ·trivial
    ·refine bB.cond (p:=Shape e gid f none) (y:=.bad) (fun _=>?_) (fun _=>trivial);exact Shape.ent _ _ _ _ _ fun C o' h=>⟨p,off,by simp at h;rw[hv,h.1]⟩
   ·trivial
  ·trivial
 ·exact fun v=>Shape.ofV ..
omit [Dr]in
theorem pt(s t:Nat)(f:Foot)(hf:f=(match bv cx.ann.kinds s .L with|.F=>{}|.H=>{ wh:=true }|.B=>{ wh:=true }|_=>{ wl:=true,ad:=!(dC cx.ann.nils s).isEmpty })):bB (Shape e gid f none) (dL cx e gid s t):=by
 unfold dL;split
 ·trivial
 ·rename_i ti _;have key:f.wl=true->(f.ad= !(dC cx.ann.nils s).isEmpty)->bB (Shape e gid f none) (match dC cx.ann.nils s with
   | offs=>bif decide (ti.size<1000)&&aL e.sl (aT s)&&fP (cy true ti) offs ti.size then
     .stat { ent:=⟨.loc (aT s) 0,none⟩,ls:=gz (aT s) (cy (dw cx.ann.hb s) ti) offs gid ti.size,add:=kA offs gid,lb:=some (aT s,ti.size) }else .bad):=by
   intro hw ha;simp only;cases decide (ti.size<1000)&&aL e.sl (aT s)&&fP (cy true ti) (dC cx.ann.nils s) ti.size with
   |false=>trivial
   |true=>exact Shape.wl hw (fun h=>qf (by rw[ha]at h;simpa using h)) rfl (fun x hx=>.inl (jq (by unfold aT;omega) x hx))
  cases hk:bv cx.ann.kinds s .L with
  |F=>exact Shape.ofV ..
  |H=>exact fun v=>Shape.ofV ..
  |B=>exact fun v=>Shape.ofV ..
  |L=>rw[hk]at hf;exact key (by rw[hf]) (by rw[hf])
  |S=>rw[hk]at hf;exact key (by rw[hf]) (by rw[hf])
omit [Dr]in
theorem ud(s t:Nat)(x:Operand)(f:Foot)(hf:f=(match bv cx.ann.kinds s .F with|.F=>{}|.H=>{ wh:=true }|.B=>{ wh:=true }|_=>{ wl:=true })):bB (Shape e gid f none) (gC cx e s t x):=by
 unfold gC;have key:f.wl=true->bB (Shape e gid f none) (match cx.T t with
  |none=>.bad
  | some ti=>bif decide (ti.size<1000)&&aL e.sl (aT s)then
    .dyn (bT ti.size (opnd e x)) fun v=>{ ent:=⟨.loc (aT s) 0,none⟩,ls:=gz (aT s) (ab v) [] 0 ti.size,lb:=some (aT s,ti.size) }
   else .bad):=by
  intro hw;split
  ·trivial
  ·rename_i ti _;cases decide (ti.size<1000)&&aL e.sl (aT s)with
   |false=>trivial
   |true=>exact fun v=>Shape.wl hw (fun _=>rfl) rfl (fun x hx=>.inl (jq (by unfold aT;omega) x hx))
 cases hk:bv cx.ann.kinds s .F with
 |F=>exact Shape.ofV ..
 |H=>exact fun v=>Shape.ofV ..
 |B=>trivial
 |L=>rw[hk]at hf;exact key (by rw[hf])
 |S=>rw[hk]at hf;exact key (by rw[hf])
omit [Dr]in
theorem rE(c:Call)(f:Foot)(ho:o.op= .call c)(hf:f=aj cx o):bB (Shape e gid f none) (dM cx e gid o c):=by
 unfold dM;cases hc:c.callee with
 |invoke r m=>trivial
 | value x=>
  cases x with
  | func g=>
   simp only;refine bB.cond (fun _=>bB.cond (fun _ v=>Shape.ofV ..) (fun _=>trivial)) fun _=>?_;intro v;cases ho':cx.own g with
   |none=>exact Shape.ofV ..
   |some z=>
    refine Shape.own _ _ _ _ _ _ ?_;rw[hf];unfold aj;rw[ho];simp only[hc,ho'];cases cx.iso g<;>rfl
  |tmp t=>exact fun v=>Shape.ofV ..
  |const t=>exact fun v=>Shape.ofV ..
  |global t=>exact fun v=>Shape.ofV ..
 | builtin b=>
  cases b<;>simp only<;>(try trivial)
  case clear=>
   split
   ·exact fun v=>Shape.ofV ..
   ·trivial
  case append=>
   split
   ·rename_i t u x y hts hxs;cases eF cx.T u with
    |false=>trivial
    | true =>
     simp only[GA,F0];cases hha:bd cx.ann.ha o.dst with
     |true=>exact fun v=>Shape.ofV ..
     | false=>
      have hfa:f.ad=true/\f.wl=false/\f.dr= !aN x:=by
       rw[hf];unfold aj;rw[ho];simp only[hc,hha,F0,hxs];exact⟨trivial,trivial,trivial⟩
      cases hn:aN x with
      |true=>exact fun v=>Shape.own _ _ _ _ _ _ hfa.1
      | false=>
       simp only[F0];split
       ·split
        ·trivial
        ·split
         ·trivial
         ·rename_i z _;cases o9 z (bV cx.T t)with
          |false=>trivial
          |true=>
           simp only[FW];intro v;have hdr:f.dr=true:=by rw[hfa.2.2,hn];rfl
           exact⟨fun _=>rfl,fun _=>rfl,fun _=>rfl,fun _ x h=>by simp[Upd.own]at h;rw[h],fun h'=>by(rw[hfa.1]at h';cases h'),fun h'=>by(rw[hdr]at h';cases h'),fun _ C off h=>by simp[Upd.own]at h,fun x h=>by simp[Upd.own]at h⟩
       ·trivial
   ·trivial
  case len=>
   split
   ·exact fun v=>Shape.ofV ..
   ·trivial
  case min=>exact fun v=>Shape.ofV ..
  case max=>exact fun v=>Shape.ofV ..
omit [Dr]in
theorem uy(f:Foot)(ss:Option Nat)(A:Act1):bB (Shape e gid f ss) (BW A):=by
 cases A with
 |bad=>trivial
 |stat u=>exact fun v=>Shape.ofV ..
 |dyn m sh=>exact fun v=>Shape.ofV ..
 |thr v=>trivial
omit [Dr]in
theorem gO(cx:Cx)(e:Env)(gid:Nat)(o:Oper):bB (Shape e gid (aj cx o) (bw o)) (dG cx e gid o):=by
 have hss:(∀t p y,o.op≠.store t (.tmp p) y)->bw o=none:=by
  intro h;unfold bw;split
  ·rename_i t p y hq;exact absurd hq (h t p y)
  ·rfl
 unfold dG;cases ho:o.op
 case store t x y=>
  simp only;cases x<;>(try trivial);rename_i p;cases hd:o.dst with
  |some d=>trivial
  |none=>
   have h1:bw o=some p:=by unfold bw;rw[ho]
   rw[h1];exact bB.cond (fun _=>trivial) fun _=>q9 t p y _ (by unfold aj;rw[ho]) (by unfold aj;rw[ho])
 all_goals
  have hs0:=hss (by rw[ho];intros;simp);rw[hs0];simp only
 case move x=>exact lY _ x _ (by unfold aj;rw[ho])
 case assign x=>exact lY _ x _ (by unfold aj;rw[ho])
 case box t x=>
  cases hd:o.dst with
  |none=>trivial
  |some s=>exact ud s t x _ (by unfold aj;rw[ho];simp only[hd];cases bv cx.ann.kinds s .F<;>rfl)
 case alloc t=>
  cases hd:o.dst with
  |none=>trivial
  |some s=>exact pt s t _ (by unfold aj;rw[ho];simp only[hd];cases bv cx.ann.kinds s .L<;>rfl)
 case load t x=>cases x<;>first|exact bB.cond (fun _=>trivial) (fun _=>bB.cond (fun _=>uy _ _ _) (fun _=>lR ..))|trivial
 case buildSlice=>
  cases hha:bd cx.ann.ha o.dst with
  |true=>exact fun v=>Shape.ofV ..
  |false=>
   intro v;cases hno:bd cx.ann.no o.dst with
   |true=>exact Shape.ofV ..
   |false=>exact Shape.own _ _ _ _ _ _ (by unfold aj;rw[ho];simp[hno,hha])
 case makeSlice=>
  cases hha:bd cx.ann.ha o.dst with
  |true=>exact fun v=>Shape.ofV ..
  |false=>exact fun v=>Shape.own _ _ _ _ _ _ (by unfold aj;rw[ho];simp[hha])
 case slice t x lo hi mx=>
  cases hso:bd cx.ann.so o.dst with
  | true=>
   simp only[FW];unfold iX;have hf:aj cx o= { ad:=true,dr:=true }:=by unfold aj;rw[ho];simp only[hso,FW]
   rw[hf];split
   ·split
    ·trivial
    ·split
     ·exact bB.cond (fun _ v=>⟨fun _=>rfl,fun _=>rfl,fun _=>rfl,fun _ x h=>by simp[Upd.own]at h;rw[h],fun h'=>(by cases h'),fun h'=>(by cases h'),fun _ C off h=>by simp[Upd.own]at h,fun x h=>by simp[Upd.own]at h⟩) fun _=>trivial
     ·trivial
   ·trivial
  |false=>
  simp only[F0];cases mx with
  |none=>exact fun v=>Shape.ofV ..
  |some m=>exact fun v=>Shape.own _ _ _ _ _ _ (by unfold aj;rw[ho];simp only[hso,F0];rfl)
 case nilCheck x=>
  cases x<;>(try trivial);simp only;split
  ·exact Shape.get ..
  ·exact fun v=>Shape.ofV ..
 case fieldAddr t x i=>cases x<;>first|exact pT ..|trivial
 case indexAddr t x i=>cases x<;>first|exact qn ..|exact fun v=>Shape.ofV ..|trivial
 case call c=>exact rE c _ ho rfl
 case panic x=>exact fun v=>Shape.ofV ..
 case makeFunc=>exact Shape.ofV ..
 case makeMap=>exact bB.cond (fun _=>trivial) fun _ v=>Shape.ofV ..
 case mapUpdate=>unfold gD;split;exact fun v=>Shape.ofV ..;trivial
 case insert=>unfold gD;split;exact fun v=>Shape.ofV ..;trivial
 case binOp=>exact bB.cond (fun _=>trivial) fun _ v=>Shape.ofV ..
 all_goals first|trivial|exact fun v=>Shape.ofV ..
end Go.Av
namespace Go.Av
mutual
theorem pF{S S':am}{β β':List a7}{g:Nat->Nat->Nat->Nat->Bool->AV}(hS:S.le S')(hg:∀l off len sz ag v,VR S β (.hs l off len sz ag) v->VR S' β' (g l off len sz ag) v):(a:AV)->(v:Value)->VR S β a v->VR S' β' (cl g a) v
 |.any,_,_=>by simp[cl,VR]
 |.bool _,_,x=>by simpa [cl,VR]using x
 |.int _ _,_,x=>by simpa [cl,VR]using x
 |.str _,_,x=>by simpa [cl,VR]using x
 |.nilp,_,x=>by simpa [cl,VR]using x
 |.nilf,_,x=>by simpa [cl,VR]using x
 |.nili,_,x=>by simpa [cl,VR]using x
 |.mp _,_,_=>by simp[cl,VR]
 |.it _,_,_=>by simp[cl,VR]
 |.nilm,_,x=>by simpa [cl,VR]using x
 |.nilb _,_,x=>by simpa [cl,VR]using x
 |.byt _ _,_,x=>by simpa [cl,VR]using x
 |.agg cs,v,x=>by
  simp only[cl,VR]at x |-;obtain⟨vs,rfl,y⟩:=x;exact⟨vs,rfl,ig hS hg cs vs y⟩
 |.tup cs,v,x=>by
  simp only[cl,VR]at x |-;obtain⟨vs,rfl,y⟩:=x;exact⟨vs,rfl,ig hS hg cs vs y⟩
 |.sl es,v,x=>by
  simp only[cl,VR]at x |-;obtain⟨a,cap,rfl,hc,hn,hq⟩:=x;have hl:(di g es).length=es.length:=lm g es;refine⟨a,cap,by rw[hl],by rw[hl];exact hc,hn,fun q e=>?_⟩;obtain⟨hs,sz,he⟩:=hq q e;exact⟨hs,sz,wu hS hg es _ _ _ he⟩
 |.ip cs,v,x=>by
  simp only[cl,VR]at x |-;obtain⟨b,off,vs,rfl,y,z⟩:=x;exact⟨b,off,vs,rfl,ig hS hg cs vs y,z.mono hS⟩
 |.hp l off,v,x=>by simp[cl,VR]
 |.hn,v,x=>by
  simp only[cl,VR]at x |-;exact⟨none,0,x,FZ _,fun _=>rfl,fun q hq=>by cases hq⟩
 |.hs l off len sz ag,v,x=>by
  simp only[cl];exact hg l off len sz ag v x
 |.fn f a c,v,x=>by
  simp only[cl,VR]at x |-;obtain⟨x,y,rfl,hx,hy⟩:=x;exact⟨x,y,rfl,ig hS hg a x hx,ig hS hg c y hy⟩
 |.iface t a,v,x=>by
  simp only[cl,VR]at x |-;obtain⟨y,rfl,hy⟩:=x;exact⟨y,rfl,pF hS hg a y hy⟩
theorem lm(g:Nat->Nat->Nat->Nat->Bool->AV):(cs:List AV)->(di g cs).length=cs.length
 |[]=>rfl
 |c:: cs=>by simp[di,lm g cs]
theorem ig{S S':am}{β β':List a7}{g:Nat->Nat->Nat->Nat->Bool->AV}(hS:S.le S')(hg:∀l off len sz ag v,VR S β (.hs l off len sz ag) v->VR S' β' (g l off len sz ag) v):(cs:List AV)->(vs:List Value)->aP S β cs vs->aP S' β' (di g cs) vs
 |[],_,x=>by simpa [di,aP]using x
 |c:: cs,vs,x=>by
  simp only[di,aP]at x |-;obtain⟨y,ys,rfl,hy,hys⟩:=x;exact⟨y,ys,rfl,pF hS hg c y hy,ig hS hg cs ys hys⟩
theorem wu{S S':am}{β β':List a7}{g:Nat->Nat->Nat->Nat->Bool->AV}(hS:S.le S')(hg:∀l off len sz ag v,VR S β (.hs l off len sz ag) v->VR S' β' (g l off len sz ag) v):(es:List AV)->(b off sz:Nat)->bi S β es b off sz->bi S' β' (di g es) b off sz
 |[],_,_,_,_=>by simp[di,bi]
 |e:: es,b,off,sz,x=>by
  simp only[di,bi]at x |-;obtain⟨⟨v,hv,hs,hc⟩,hes⟩:=x;exact⟨⟨v,pF hS hg e v hv,hs,hc.mono hS⟩,wu hS hg es b (off+sz) sz hes⟩
end
variable [Dr]
omit [Dr]in
theorem pG{S:am}{β:List a7}{args:List AV}{vs:List Value}(h:aP S β args vs):aP S [] (di az args) vs:=
 ig (am.le_refl S) (fun _ _ _ _ _ _ _=>by simp[az,VR]) args vs h
omit [Dr]in
theorem oU{S:am}{β:List a7}{a:AV}{v:Value}(h:be a=true)(hv:VR S β a v):v.cells= #[v]:=by
 cases a<;>simp only[be,F7]at h<;>simp only[VR]at hv
 case bool=>subst hv;rfl
 case int=>subst hv;rfl
 case str=>obtain⟨x,rfl,_⟩:=hv;rfl
 case nilp=>subst hv;rfl
 case nilf=>subst hv;rfl
 case nili=>subst hv;rfl
 case sl=>obtain⟨x,c,rfl,_⟩:=hv;rfl
 case ip=>obtain⟨b,o,vs,rfl,_⟩:=hv;rfl
 case hp=>obtain⟨b,_,_,rfl⟩:=hv;rfl
 case mp=>obtain⟨b,_,_,rfl⟩:=hv;rfl
 case nilm=>subst hv;rfl
 case hs=>rcases hv with⟨b,c,_,_,rfl,_⟩|⟨_,_,rfl⟩<;>rfl
 case hn=>subst hv;rfl
 case fn=>obtain⟨x,y,rfl,_⟩:=hv;rfl
 case iface=>obtain⟨x,rfl,_⟩:=hv;rfl
omit [Dr]in
theorem oH{S S2:am}{β β2:List a7}{w:World}{ω:Nat->Owner}{h:Hp}(hH:dH S β w ω h)(hS:S.le S2)(h2:∀(b o:Nat)(x:Array Value),ba β h b->Row w b x->S2 b o=x[o]?):∀(d:Nat)(a:AV)(v:Value),VR S β a v->VR S2 β2 (ka d h a) v
 |0,a,v,hv=>pF hS (fun _ _ _ _ _ _ _=>by simp[az,VR]) a v hv
 | d + 1,a,v,hv=>by
  refine pF hS (fun l off len sz ag u hu=>?_) a v hv;cases hl:h[l]? with
  |none=>simp[VR]
  | some cs=>
   simp only;cases hc:(decide (off+len*sz<=cs.length)&&decide (0<sz)&&(ag||(Nat.beq sz 1&&cs.all be)))with
   |false=>simp[VR]
   | true=>
    simp only[FV,F5,GE]at hc;obtain⟨⟨hc1,hc2⟩,hc3⟩:=hc;simp only[FW];simp only[VR]at hu |-;rcases hu with⟨⟨b,nb⟩,cap,hβ,hb0,rfl,hlc,hcn⟩|⟨h00,q0,rfl⟩
    rotate_left
    ·subst h00;exact⟨some q0,0,rfl,FZ _,fun _=>rfl,fun q hq=>⟨fun h=>absurd h (by omega),sz,trivial⟩⟩
    refine⟨some ⟨b,off,none⟩,cap,by simp,by simpa using hlc,(fun hh=>by cases hh),fun q hq=>?_⟩;simp only[FU]at hq;subst hq;refine⟨fun _=>rfl,sz,.of_get fun i e he=>?_⟩;have hi:i<len:=by
     rcases Gd i len with h'|h'
     ·exact h'
     ·rw[F8 (by simpa using h')]at he;cases he
    rw[GW,List.getElem?_range hi]at he;simp only[Ha,FU]at he;have hile:off+i*sz+sz<=cs.length:=by
     have:(i+1)*sz<=len*sz:=Gc _ hi;rw[Gy]at this;omega
    have hne:cs≠[]:=by rintro rfl;simp at hile;omega
    obtain⟨x,k1,k2,k3,k4,k5⟩:=hH.cells hl hne hβ hb0;rw[hβ]at k1;simp only[FU,GN,Iw]at k1;subst k1;have hx:=k4.length;simp only[Hd,GD]at hx;have hS2:∀o,S2 b o=x[o]?:=fun o=>h2 b o x ⟨l,cs,_,hl,hne,hβ⟩ k2;subst he;cases ag with
    | true=>
     simp only[FW];have hsub:=(k4.drop (off+i*sz)).take sz;refine⟨.agg (((x.toList.take cs.length).drop (off+i*sz)).take sz).toArray,oH hH hS h2 d _ _ (by simp only[VR];exact⟨_,rfl,hsub⟩),?_,fun j y hy=>?_⟩
     ·simp[Value.cells];omega
     ·simp only[Value.cells]at hy;rw[Gg]at hy;split at hy
      ·rw[GO,Gg]at hy;split at hy
       ·rw[hS2];simpa using hy
       ·cases hy
      ·cases hy
    | false=>
     simp only[F0];simp only[F7,false_or]at hc3;have hsz:sz=1:=F6 hc3.1;subst hsz;have hlt:off+i*1<cs.length:=by omega
     have hcs:cs[off+i*1]? = some (nth cs (off+i*1)):=by unfold nth;rw[Gv,Gf hlt];rfl
     obtain⟨y,hy1,hy2⟩:=k4.get hcs;have hok:=F9.1 hc3.2 _ (GT hcs);have hcells:=oU hok hy2;refine⟨y,oH hH hS h2 d _ _ hy2,by rw[hcells];rfl,fun j z hz=>?_⟩;rw[hcells]at hz;cases j with
     |zero=>
      simp only[Ga,FU]at hz;subst hz;rw[hS2,GX];rw[Gg,FY hlt]at hy1;rw[<- hy1];simp
     |succ j=>simp at hz
theorem FR.weak{c:Entry}{N:Nat}{U:Nat->Prop}{e e2:Env}{h:Hp}{a:Act}{w:World}{S:am}{β:List a7}{γ:Nat->Value}{lam:Nat->Option Nat}{ω:Nat->Owner}(H:FR c N U e h a w S β γ lam ω)(hv:∀t,(e2.get t).v=(e.get t).v\/(e2.get t).v= .val .any/\t<1000)(hg:∀t g,(e2.get t).g=some g->(e.get t).g=some g)(hal:∀g z,aA e2.al g=some z->aA e.al g=some z)(hlb:∀B n,aW e2.lb B=some n->aW e.lb B=some n):FR c N U e2 h a w S β γ lam ω:=by
 refine⟨H.wf,H.gro,H.keep,H.le,H.ext,H.hlen,H.heap,H.tsz,fun t ht=>?_,fun t g z ht hgg hz=>H.grps t g z ht (hg t g hgg) (hal g z hz),fun B n hB=>?_,fun g z hz=>H.free g z (hal g z hz),H.mine,⟨fun t g hgg=>H.used.1 t g (hg t g hgg),fun g z hz=>H.used.2 g z (hal g z hz)⟩⟩
 ·rcases hv t with h1|⟨h1,_⟩
  ·rw[h1];exact H.slots t ht
  ·rw[h1];simp[dA,VR]
 ·obtain⟨h1,h2,h3,b,x,h4,h5,h6,h7,h8⟩:=H.lblk B n (hlb B n hB);refine⟨h1,h2,h3,b,x,h4,h5,h6,h7,fun i hi=>?_⟩;obtain⟨v,a',g1,g2,g3,g4⟩:=h8 i hi;refine⟨v,a',g1,?_,g3,fun g z hgg hz=>g4 g z (hg _ g hgg) (hal g z hz)⟩;rcases hv (B+i)with k1|⟨_,k1⟩
  ·rw[k1];exact g2
  ·omega
theorem FR.acts{c:Entry}{N:Nat}{U:Nat->Prop}{e:Env}{h:Hp}{a a2:Act}{w:World}{S:am}{β:List a7}{γ:Nat->Value}{lam:Nat->Option Nat}{ω:Nat->Owner}(H:FR c N U e h a w S β γ lam ω)(ht:a2.tmps=a.tmps):FR c N U e h a2 w S β γ lam ω:=
 ⟨H.wf,H.gro,H.keep,H.le,H.ext,H.hlen,H.heap,by rw[ht];exact H.tsz,fun t h=>by rw[ht];exact H.slots t h,fun t g z h=>by rw[ht];exact H.grps t g z h,H.lblk,H.free,H.mine,H.used⟩
open Classical in
theorem FR.freeze{c:Entry}{N:Nat}{U:Nat->Prop}{e:Env}{h:Hp}{a:Act}{w:World}{S:am}{β:List a7}{γ:Nat->Value}{lam:Nat->Option Nat}{ω:Nat->Owner}(H:FR c N U e h a w S β γ lam ω):
  ∃S2 ω2,FR c N U e (h.map fun _=>[]) a w S2 β γ lam ω2/\∀v u,VR S β v u->VR S2 β (ka 6 h v) u:=by
 let S2:am:=fun b o=>if ba β h b then w.cell? ⟨b,o,none⟩else S b o;let ω2:Nat->Owner:=fun b=>if ba β h b then .no else ω b;have hn:∀b,¬ba β h b->∀o,S2 b o=S b o:=fun b hb o=>if_neg hb;have hy:∀b,ba β h b->∀o,S2 b o=w.cell? ⟨b,o,none⟩:=fun b hb o=>FY hb;have hωn:∀b,¬ba β h b->ω2 b=ω b:=fun b hb=>if_neg hb;have hωy:∀b,ba β h b->ω2 b= .no:=fun b hb=>FY hb;have hho:∀b,ba β h b->∃l,ω b= .heap l:=fun b hb=>by obtain⟨l,_,h1,_⟩:=H.hown hb;exact⟨l,h1⟩
 have hno:∀b,(∀l,ω b≠.heap l)->¬ba β h b:=fun b hb ho=>by obtain⟨l,hl⟩:=hho b ho;exact hb l hl
 have hle:S.le S2:=by
  intro b o v hv;by_cases hb:ba β h b
  ·obtain⟨l,x,_,_,_,h5⟩:=H.hown hb;rw[h5]at hv;cases hv
  ·rw[hn b hb];exact hv
 have hwf:Wf S2 w:=by
  intro b o v hv;by_cases hb:ba β h b
  ·rw[hy b hb]at hv;exact hv
  ·rw[hn b hb]at hv;exact H.wf b o v hv
 refine⟨S2,ω2,⟨hwf,H.gro,fun b hb hE=>⟨(H.keep b hb hE).1,fun o=>?_⟩,am.le_trans H.le hle,H.ext,by simp[H.hlen],fun l cs hl hcs=>?_,H.tsz,fun t ht=>?_,H.grps,fun B n hB=>?_,fun g z hg=>?_,fun b hb=>?_,H.used⟩,fun v u hv=>?_⟩
 ·have:¬ba β h b:=fun ho=>by
   obtain⟨l,hl⟩:=hho b ho;rcases (H.mine b (by rw[hl];simp)).1.low with h1|h1
   ·exact hE h1
   ·omega
  rw[hn b this];exact (H.keep b hb hE).2 o
 ·rw[GW]at hl;cases hq:h[l]? with
  |none=>rw[hq]at hl;cases hl
  |some x=>rw[hq]at hl;simp at hl;exact absurd hl (fun hh=>hcs hh)
 ·have:=H.slots t ht
  cases hv:(e.get t).v with
  |val av=>rw[hv]at this;exact VR.mono hle (dm.refl β) _ _ this
  |loc B off=>rw[hv]at this;exact this
 ·obtain⟨h1,h2,h3,b,x,h4,h5,h6,h7,h8⟩:=H.lblk B n hB;have hb:=hno b (fun l hl=>by rw[h6]at hl;cases hl);refine⟨h1,h2,h3,b,x,h4,h5,by rw[hωn b hb];exact h6,fun o=>by rw[hn b hb];exact h7 o,fun i hi=>?_⟩;obtain⟨v,a',g1,g2,g3,g4⟩:=h8 i hi;exact⟨v,a',g1,g2,VR.mono hle (dm.refl β) _ _ g3,g4⟩
 ·obtain⟨a',len,cap,h1,h2,h3,h4⟩:=H.free g z hg;refine⟨a',len,cap,h1,h2,h3,h4.imp id ?_⟩;rintro⟨sz,b,off,x,g1,g2,g3,g4,g5,g6⟩;have hb:=hno b (fun l hl=>by rw[g5]at hl;cases hl);exact⟨sz,b,off,x,g1,g2,g3,g4,by rw[hωn b hb];exact g5,fun o ho=>by rw[hn b hb];exact g6 o ho⟩
 ·by_cases ho:ba β h b
  ·exact absurd (hωy b ho) hb
  ·have hb':ω b≠.no:=by rw[<- hωn b ho];exact hb
   exact⟨(H.mine b hb').1.of_eq (hωn b ho),(H.mine b hb').2⟩
 ·exact oH H.heap hle (fun b o x hb hr=>by rw[hy b hb,hr.cell]) 6 v u hv
theorem io{c:Entry}{N:Nat}{U:Nat->Prop}{e:Env}{h:Hp}{a:Act}{w:World}{gid:Nat}{d:Option Tmp}{u:Upd}(hd:∀t,d=some t->t<N)(hs:Shape e gid {} none u)(H:dn c N U (e.upd d u) h a w):dn c N U (e.upd d (.ofV (ka 6 h u.ent.av))) (h.map fun _=>[]) a w:=by
 obtain⟨S,β,γ,lam,ω,F⟩:=H;obtain⟨S2,ω2,F2,hf⟩:=F.freeze;have h1:=hs.ls rfl;have h2:=hs.lb rfl;have h3:=hs.unlb rfl;have h4:=hs.noad rfl;have h5:=hs.nodr rfl;have hget:∀t,(e.upd d u).get t=if d=some t then u.ent else e.get t:=fun t=>by rw[bJ,h1];rfl
 have hget':∀x t,(e.upd d (.ofV x)).get t=if d=some t then⟨.val x,none⟩else e.get t:=fun x t=>by rw[bJ];rfl
 have hal:(e.upd d u).al=e.al:=by show u.add++cS e.al u.drop=e.al;rw[h4,h5];rfl
 have hlb:(e.upd d u).lb=e.lb:=by show ib (cH e.lb u.unlb) u.lb=e.lb;rw[h2,h3];rfl
 -- first forget the slot, then tell it anew
 have F3:FR c N U (e.upd d (.ofV .any)) (h.map fun _=>[]) a w S2 β γ lam ω2:=by
  refine F2.weak (fun t=>?_) (fun t g hg=>?_) (fun g z hz=>by rw[hal];exact hz) (fun B n hB=>by rw[hlb];exact hB)
  ·rw[hget,hget'];split
   ·rename_i hdt;exact .inr ⟨rfl,by have h1:=hd t hdt;have h2:=F.tsz.2;exact Gu h1 h2⟩
   ·exact .inl rfl
  ·rw[hget']at hg;rw[hget];split at hg
   ·cases hg
   ·rename_i hdt;rw[if_neg hdt];exact hg
 cases d with
 |none=>exact⟨S2,β,γ,lam,ω2,F3⟩
 | some s=>
  have hsl:=F.slots s (Gu (hd s rfl) F.tsz.2);rw[hget,FY rfl]at hsl;generalize hv0:a.tmps.getD s undef=v0 at hsl;have hvr:VR S β u.ent.av v0:=by
   unfold Ent.av;cases hv:u.ent.v with
   |val x=>rw[hv]at hsl;exact hsl
   |loc B off=>simp[VR]
  have F4:=F3.setV (d:=some s) hd (hf _ _ hvr);refine⟨S2,β,γ,lam,ω2,(F4.weak (e2:=e.upd (some s) (.ofV (ka 6 h u.ent.av))) (fun t=>.inl ?_) (fun t g hg=>?_) (fun g z hz=>hz) (fun B n hB=>hB)).acts ?_⟩
  ·rw[hget',bJ];split
   ·rfl
   ·rename_i hdt;show (e.get t).v=(bg ((s,⟨.val .any,none⟩):: e.sl) t).v;rw[bu,if_neg (fun hh=>hdt (by rw[hh]))];rfl
  ·rw[hget']at hg;rw[bJ];split at hg
   ·cases hg
   ·rename_i hdt;rw[if_neg hdt];show (bg ((s,⟨.val .any,none⟩):: e.sl) t).g=some g;rw[bu,if_neg (fun hh=>hdt (by rw[hh]))];exact hg
  ·have hlt:s<a.tmps.size:=Gu (hd s rfl) F.tsz.1;simp only[Act.put];rw[<- hv0,Gn,G2 hlt];apply Array.ext_getElem?;intro i;rw[Hg];split
   ·rename_i hi;subst hi;rw[G2 hlt];rfl
   ·rfl
end Go.Av
namespace Go.Av
section
variable {P:Program} {T:TT} {w:World} {S:am} {β:List a7}
theorem qd{α:Type}{g:α->PUnit->Sem (ForInStep PUnit)}:∀(l:List α),(∀x∈l,(g x ⟨⟩).run P w= .ok (.yield ⟨⟩) w)->(forIn l PUnit.unit g).run P w= .ok ⟨⟩ w
 |[],_=>by simp
 |x:: l,h=>by
  rw[List.forIn_cons];simp only[Sem.run_bind,h x (by simp),Result.andThen_ok];exact qd l fun y hy=>h y (by simp[hy])
theorem gl(hT:TOK P T):(d n:Nat)->d<=n->(t:TypeId)->(x:AV)->(v:Value)->(em:Bool)->uj T d t x=true->VR S β x v->(Instr.checkKey em n t v).run P w= .ok () w
 |0,_,_,t,x,v,em,h,_=>by simp[uj]at h
 |d+1,0,hn,_,_,_,_,_,_=>by omega
 | d + 1,n+1,hn,t,x,v,em,h,hx=>by
  unfold uj at h;cases ht:T t with
  |none=>rw[ht]at h;cases h
  | some ti=>
   rw[ht]at h;simp only at h;obtain⟨i,dd,z,hi,hd,_,_,hsz,_,hk,hag,hof,_⟩:=(hT.get ht).ex;unfold Instr.checkKey;simp only[Sem.run_bind,run_underlying hd,Result.andThen_ok];split at h
   case h_1 hkk=>cases dd<;>simp only[kindOf,hkk,reduceCtorEq]at hk;simp
   case h_2 hkk=>cases dd<;>simp only[kindOf,hkk,reduceCtorEq]at hk;simp
   case h_3 hkk=>cases dd<;>simp only[kindOf,hkk,reduceCtorEq]at hk;simp
   case h_4 hkk=>cases dd<;>simp only[kindOf,hkk,reduceCtorEq]at hk;simp
   case h_5 cs hkk=>
    obtain⟨fs,rfl⟩:∃fs,dd= .struct fs:=by cases dd<;>simp only[kindOf,hkk,reduceCtorEq]at hk;exact⟨_,rfl⟩
    simp only[VR]at hx;obtain⟨vs,rfl,hvs⟩:=hx;simp only;rw[<- hof,F9]at h
    have hall:∀f∈fs.toList,((if f.name≠ "_" then(do
       let y <- part f.type vs.toArray f.offset
       Instr.checkKey em n f.type y
       pure (ForInStep.yield PUnit.unit))else pure (ForInStep.yield PUnit.unit)):Sem (ForInStep PUnit)).run P w= .ok (.yield ⟨⟩) w:=by
     intro f hf
     have:=h (f.offset,f.type,decide (f.name≠ "_")) (by simp only[iv,HD];exact⟨f,hf,rfl⟩)
     simp only at this;split
     ·cases htf:T f.type with
      |none=>rw[htf]at this;cases this
      | some fi=>
       rw[htf]at this;simp only at this;cases hp:kj fi cs f.offset with
       |none=>rw[hp]at this;cases this
       |some y=>
        rw[hp]at this;obtain⟨u,hu,hur⟩:=i6 (P:=P) (w:=w) (S:=S) (β:=β) hT htf hvs hp;simp only[Sem.run_bind,hu,Result.andThen_ok];rw[gl hT d n (by omega) f.type y u em this hur];simp
     ·simp
    have:=qd (P:=P) (w:=w) (g:=fun(f:Field) (_:PUnit)=>(if f.name≠ "_" then(do
       let y <- part f.type vs.toArray f.offset
       Instr.checkKey em n f.type y
       pure (ForInStep.yield PUnit.unit))else pure (ForInStep.yield PUnit.unit):Sem (ForInStep PUnit))) fs.toList hall
    simp only[Array.forIn_toList]at this;simp only[Sem.run_bind,this,Result.andThen_ok,Sem.run_pure]
   ·cases h
theorem qW(w:World)(hT:TOK P T){d:Nat}{t:Nat}{dd:TypeDesc}(hd:P.underlying t=some dd){x y:AV}{vx vy:Value}{b b':Bool}(h:wz T (d+1) t x y=some b)(hx:VR S β x vx)(hy:VR S β y vy)(hs:Instr.sameNow dd vx vy=some b'):b'=b:=by
 have h0:=lr (P:=P) (w:=w) hT (d+1) (d+1) (FZ _) t x y vx vy b h hx hy;unfold Instr.sameNow at hs;split at hs
 ·split at hs
  ·rename_i hkk;simp only[FU]at hs;subst hs;simp[Op.equalIn,run_underlying hd,hkk]at h0;exact h0
  ·cases hs
 ·simp only[FU]at hs;subst hs;simp[Op.equalIn,run_underlying hd]at h0;exact h0
 ·simp only[FU]at hs;subst hs;simp[Op.equalIn,run_underlying hd]at h0;exact h0
 ·cases hs
def oh(S:am)(β:List a7)(ents:List MapEntry)(i0:Nat):Option (Nat×AV×AV)->Option (Nat×Value)->Prop
 |none,r=>r=none
 |some (i,k,v),r=>∃u x,r=some (i,u)/\i0<=i/\ents[i-i0]? = some x/\VR S β k x.key/\VR S β v x.val/\u=x.val
theorem fa.cons{e:AV}{es:List AV}{ents:List MapEntry}(h:fa S β (e:: es) ents):∃k v x ents',e= .tup [k,v]/\ents=x:: ents'/\VR S β k x.key/\VR S β v x.val/\fa S β es ents':=by
 obtain⟨h1,h2⟩:=h;cases ents with
 |nil=>simp at h1
 |cons x ents'=>
  obtain⟨k,v,g1,g2,g3⟩:=h2 0 e x rfl rfl;exact⟨k,v,x,ents',g1,rfl,g2,g3,by simpa using h1,fun i a b ha hb=>h2 (i+1) a b (by simpa using ha) (by simpa using hb)⟩
theorem pU(hT:TOK P T){kt:Nat}{dd:TypeDesc}(hd:P.underlying kt=some dd){k:AV}{vk:Value}(hk:VR S β k vk):∀(es:List AV)(ents:List MapEntry)(i:Nat)(r:Option (Nat×AV×AV)),iI T kt k es i=some r->fa S β es ents->
  ∃r',oh S β ents i r r'/\(∀r2,Instr.findNow dd vk ents i=some r2->r2=r')/\(Instr.findAsking kt vk ents i).run P w= .ok r' w
 |[],ents,i,r,h,he=>by
  have:ents=[]:=by simpa using he.1.symm
  subst this;simp only[iI,FU]at h;subst h;exact⟨none,rfl,fun r2 h2=>by simp[Instr.findNow]at h2;exact h2.symm,by simp[Instr.findAsking]⟩
 | e :: es,ents,i,r,h,he=>by
  obtain⟨k',v,x,ents',rfl,rfl,hk',hv,he'⟩:=he.cons;simp only[iI]at h;cases hq:wz T 20 kt k k' with
  |none=>rw[hq]at h;cases h
  | some b=>
   have heq:=lr (P:=P) (w:=w) hT 20 Op.maxDepth (by decide) kt k k' vk x.key b hq hk hk';have hsn:=fun b'=>qW (P:=P) (b':=b') w hT hd hq hk hk';rw[hq]at h;cases b with
   | true=>
    simp only[FU]at h;subst h;refine⟨some (i,x.val),⟨x.val,x,rfl,FZ _,by simp,hk',hv,rfl⟩,fun r2 h2=>?_,?_⟩
    ·unfold Instr.findNow at h2;split at h2
     ·simpa using h2.symm
     ·rename_i hs;have:=hsn false hs;cases this
     ·cases h2
    ·unfold Instr.findAsking;simp[Op.equal,heq]
   | false=>
    simp only at h;obtain⟨r',h1,h2,h3⟩:=pU hT hd hk es ents' (i+1) r h he';refine⟨r',?_,fun r2 hr2=>?_,?_⟩
    ·cases r with
     |none=>exact h1
     |some q=>
      obtain⟨j,k2,v2⟩:=q;obtain⟨u,y,g1,g2,g3,g4⟩:=h1;refine⟨u,y,g1,by omega,?_,g4⟩;rw[show j-i=(j-(i+1))+1 by omega];simpa using g3
    ·unfold Instr.findNow at hr2;split at hr2
     ·rename_i hs;have:=hsn true hs;cases this
     ·exact h2 r2 hr2
     ·cases hr2
    ·unfold Instr.findAsking;simp only[Op.equal,Sem.run_bind,heq,Result.andThen_ok,F7,Gl];exact h3
theorem ly(hT:TOK P T){kt:Nat}{dd:TypeDesc}(hd:P.underlying kt=some dd){k:AV}{vk:Value}(hk:VR S β k vk){es:List AV}{ents:List MapEntry}{r:Option (Nat×AV×AV)}(h:iI T kt k es 0=some r)(he:fa S β es ents):
  ∃r',oh S β ents 0 r r'/\(Instr.findKey kt vk ents).run P w= .ok r' w:=by
 obtain⟨r',h1,h2,h3⟩:=pU (P:=P) (w:=w) hT hd hk es ents 0 r h he;refine⟨r',h1,?_⟩;unfold Instr.findKey;simp only[Sem.run_bind,run_underlying hd,Result.andThen_ok];cases hn:Instr.findNow dd vk ents 0 with
 |none=>exact h3
 |some r2=>
  have:=h2 r2 hn
  subst this;simp
theorem qV{x y:AV}(h:tO x y=true){v u:Value}(hx:VR S β x v)(hy:VR S β y u):v=u/\x=y/\∀n,Instr.sameBits n v u=true:=by
 unfold tO at h;split at h
 ·simp only[VR]at hx hy
  have:=eq_of_beq h
  subst this hx hy;exact⟨rfl,rfl,fun n=>by cases n<;>simp[Instr.sameBits]⟩
 ·simp only[VR]at hx hy;simp only[FV,F5,GG]at h;obtain⟨rfl,rfl⟩:=h;subst hx hy;exact⟨rfl,rfl,fun n=>by cases n<;>simp[Instr.sameBits]⟩
 ·simp only[VR]at hx hy
  have:=eq_of_beq h
  subst this;obtain⟨x,rfl,hx⟩:=hx;obtain⟨y,rfl,hy⟩:=hy;have:x=y:=pI.1 (hx.trans hy.symm);subst this;exact⟨rfl,rfl,fun n=>by cases n<;>simp[Instr.sameBits,beq_toListBytes]⟩
 ·cases h
theorem nU:∀ {xs ys:List AV},oY xs ys=true->∀ {vs us:List Value},aP S β xs vs->aP S β ys us->vs=us/\xs=ys/\∀n,(vs.zip us).all (fun(x,y)=>Instr.sameBits n x y)=true
 |[],[],_,vs,us,hx,hy=>by
  simp only[aP]at hx hy;subst hx hy;exact⟨rfl,rfl,fun n=>rfl⟩
 |x:: xs,y:: ys,h,vs,us,hx,hy=>by
  simp only[oY,FV]at h;simp only[aP]at hx hy;obtain⟨v,vs,rfl,h1,h2⟩:=hx;obtain⟨u,us,rfl,g1,g2⟩:=hy;obtain⟨rfl,rfl,k1⟩:=qV h.1 h1 g1;obtain⟨rfl,rfl,k2⟩:=nU h.2 h2 g2;exact⟨rfl,rfl,fun n=>by simp only[List.zip_cons_cons,GR,k1,Hb];exact k2 n⟩
 |[],_:: _,h,_,_,_,_=>by cases h
 |_:: _,[],h,_,_,_,_=>by cases h
theorem xF{x y:AV}(h:tP x y=true){v u:Value}(hx:VR S β x v)(hy:VR S β y u):v=u/\x=y/\∀n,Instr.sameBits (n+1) v u=true:=by
 unfold tP at h;split at h
 ·simp only[VR]at hx hy;obtain⟨vs,rfl,h1⟩:=hx;obtain⟨us,rfl,h2⟩:=hy;obtain⟨rfl,rfl,k⟩:=nU h h1 h2;exact⟨rfl,rfl,fun n=>by simp only[Instr.sameBits,Hs,Hb];exact k n⟩
 ·obtain⟨h1,h2,h3⟩:=qV h hx hy;exact⟨h1,h2,fun n=>h3 _⟩
theorem tA(hT:TOK P T){t kt et:Nat}(h:lW T t=some (kt,et)):P.underlying t=some (.map kt et):=by
 unfold lW at h;cases ht:T t with
 |none=>rw[ht]at h;cases h
 | some ti=>
  rw[ht]at h;obtain⟨i,dd,z,hi,hd,_,_,hsz,_,hk,_⟩:=(hT.get ht).ex;simp only at h;split at h
  ·rename_i hkk;simp only[FU,GN]at h;obtain⟨rfl,rfl⟩:=h;cases dd<;>simp only[kindOf,hkk,reduceCtorEq,TK.map.injEq]at hk;obtain⟨rfl,rfl⟩:=hk;exact hd
  ·cases h
theorem mZ(hT:TOK P T){d t:Nat}{x:AV}(h:uj T d t x=true):∃dd,P.underlying t=some dd:=by
 cases d with
 |zero=>simp[uj]at h
 | succ d=>
  unfold uj at h;cases ht:T t with
  |none=>rw[ht]at h;cases h
  |some ti=>
   obtain⟨i,dd,z,hi,hd,_⟩:=(hT.get ht).ex;exact⟨dd,hd⟩
theorem x5(hT:TOK P T){t:Nat}{ti:TI}(ht:T t=some ti):∃z,(zeroValue t).run P w= .ok z w/\VR S β (gI ti) z:=by
 obtain⟨i,d,z,hi,hd,hz,_⟩:=(hT.get ht).ex;exact⟨z,by simp[zeroValue,typeInfo,hi,hz],(mO hT ht hi hz).1⟩
theorem mj{r clock:Nat}{es:Array MapEntry}(hb:w.heap[r]? = some (.map es clock)):(getObj r).run P w= .ok (.map es clock) w:=by
 simp[getObj,Sem.run,hb]
def d9(w:World)(b:Nat)(o:Obj):World:={ w with heap:=w.heap.setIfInBounds b o }
theorem qU{r clock:Nat}{es:Array MapEntry}(o:Obj)(hb:w.heap[r]? = some (.map es clock)):(setObj r o).run P w= .ok () (d9 w r o):=by
 simp[setObj,Sem.run,hb,d9]
theorem look_ok(hT:TOK P T){t:Nat}{es:List AV}{k r:AV}{ok:Bool}(h:nG T t es k ok=some r){vm vk:Value}(hk:VR S β k vk){ents:Array MapEntry}(he:fa S β es ents.toList)(hm:(vm= .map none/\ents= #[])\/∃b clock,vm= .map (some b)/\w.heap[b]? = some (.map ents clock)):mC P w S β (Instr.lookup t vm vk ok) r:=by
 unfold nG at h;cases hmt:lW T t with
 |none=>rw[hmt]at h;cases h
 | some q=>
  obtain⟨kt,et⟩:=q;rw[hmt]at h;simp only at h;cases hck:uj T 20 kt k with
  |false=>rw[hck]at h;cases h
  | true=>
   rw[hck]at h;simp only[FW]at h;cases hte:T et with
   |none=>rw[hte]at h;cases h
   | some ei=>
    rw[hte]at h;simp only at h;obtain⟨dd,hd⟩:=mZ hT hck;have hu:=tA hT hmt;have hc:=fun em=>gl (P:=P) (w:=w) hT 20 10000 (by decide) kt k vk em hck hk;have hgo:∀(r:AV)(r':Option (Nat×Value)),(Instr.findKey kt vk ents.toList).run P w= .ok r' w->
      (∃v b,(r'=none->b=false/\(zeroValue et).run P w= .ok v w)/\(∀q,r'=some q->b=true/\v=q.2)/\VR S β r (if ok then .tuple #[v,.bool b]else v))->mC P w S β (Instr.lookup t vm vk ok) r:=by
     rintro r r' hf ⟨v,b0,h1,h2,h3⟩;refine⟨_,?_,h3⟩;unfold Instr.lookup;rcases hm with⟨rfl,rfl⟩|⟨b,clock,rfl,hb⟩
     ·simp only[Sem.run_bind,run_underlying hu,Result.andThen_ok,Sem.run_pure,hc,hf];cases r' with
      |none=>obtain⟨rfl,h1⟩:=h1 rfl;simp only[Sem.run_bind,h1,Result.andThen_ok,Sem.run_pure]
      |some q=>obtain⟨rfl,rfl⟩:=h2 q rfl;simp only[Sem.run_bind,Result.andThen_ok,Sem.run_pure]
     ·simp only[Sem.run_bind,run_underlying hu,Result.andThen_ok,mj hb,Sem.run_pure,hc,hf];cases r' with
      |none=>obtain⟨rfl,h1⟩:=h1 rfl;simp only[Sem.run_bind,h1,Result.andThen_ok,Sem.run_pure]
      |some q=>obtain⟨rfl,rfl⟩:=h2 q rfl;simp only[Sem.run_bind,Result.andThen_ok,Sem.run_pure]
    cases hf:iI T kt k es 0 with
    |none=>rw[hf]at h;cases h
    | some q=>
     rw[hf]at h;obtain⟨r',h1,h2⟩:=ly (P:=P) (w:=w) hT hd hk hf he;cases q with
     |none=>
      simp only[FU]at h;subst h;simp only[oh]at h1;subst h1;obtain⟨z,hz,hzr⟩:=x5 (w:=w) (S:=S) (β:=β) hT hte;refine hgo _ none h2 ⟨z,false,fun _=>⟨rfl,hz⟩,(fun _ h=>by cases h),?_⟩;cases ok with
      |true=>simp only[FW,Gm,VR];exact⟨[z,.bool false],rfl,by simp only[aP,VR];exact⟨_,_,rfl,hzr,_,_,rfl,rfl,rfl⟩⟩
      |false=>simpa using hzr
     |some q=>
      obtain⟨i,k',v⟩:=q;simp only[FU]at h;subst h;obtain⟨u,x,rfl,_,g2,g3,g4,rfl⟩:=h1;refine hgo _ _ h2 ⟨x.val,true,(fun h=>by cases h),(fun q h=>by cases h;exact⟨rfl,rfl⟩),?_⟩;cases ok with
      |true=>simp only[FW,Gm,VR];exact⟨[x.val,.bool true],rfl,by simp only[aP,VR];exact⟨_,_,rfl,g4,_,_,rfl,rfl,rfl⟩⟩
      |false=>simpa using g4
theorem BL(hT:TOK P T){t kt et:Nat}(hmt:lW T t=some (kt,et)){es es':List AV}{k v:AV}(hck:uj T 20 kt k=true)(h:y6 T kt es k v=some es'){vk vv:Value}(hk:VR S β k vk)(hv:VR S β v vv){ents:Array MapEntry}{clock b:Nat}(he:fa S β es ents.toList)(hst:kO ents.toList clock)(hb:w.heap[b]? = some (.map ents clock)):
  ∃ents' clock',(Instr.mapUpdate t (.map (some b)) vk vv).run P w= .ok () (d9 w b (.map ents' clock'))/\fa S β es' ents'.toList/\kO ents'.toList clock'/\
   es.length<=es'.length/\(es'.length=es.length->clock'=clock/\ents'.toList.map (·.born)=ents.toList.map (·.born)):=by
 obtain⟨dd,hd⟩:=mZ hT hck;have hu:=tA hT hmt;have hc:=gl (P:=P) (w:=w) hT 20 10000 (by decide) kt k vk false hck hk;unfold y6 at h;cases hf:iI T kt k es 0 with
 |none=>rw[hf]at h;cases h
 | some q=>
  rw[hf]at h;obtain⟨r',h1,h2⟩:=ly (P:=P) (w:=w) hT hd hk hf he;cases q with
  | none=>
   simp only[FU]at h;subst h;simp only[oh]at h1;subst h1;refine⟨ents.push { key:=vk,val:=vv,born:=clock },clock+1,?_,?_,?_,by simp,by simp⟩
   ·unfold Instr.mapUpdate;simp only[Sem.run_bind,run_underlying hu,Result.andThen_ok,mj hb,hc,h2,qU _ hb]
   ·refine⟨by simpa using he.1,fun i a x ha hx=>?_⟩;have hl:=he.1;simp only[Ia]at hx;rw[Hh]at ha hx;split at ha
    ·rename_i hlt;rw[FY (by omega)]at hx;exact he.2 i a x ha hx
    ·rename_i hlt;rw[if_neg (by omega)]at hx;rw[<- hl]at hx;cases hi:i-es.length with
     |zero=>
      rw[hi]at ha hx;simp at ha hx;subst ha hx;exact⟨k,v,rfl,hk,hv⟩
     |succ n=>rw[hi]at ha;simp at ha
   ·refine⟨fun x hx=>?_,?_⟩
    ·simp only[Ia,Gt,GU]at hx;rcases hx with hx|rfl
     ·exact Nat.lt_succ_of_lt (hst.1 x hx)
     ·exact Ii _
    ·simp only[Ia];rw[List.pairwise_append];refine⟨hst.2,by simp,fun x hx y hy=>?_⟩;simp only[GU]at hy;subst hy;exact Nat.ne_of_lt (hst.1 x hx)
  | some q=>
   obtain⟨i,k',v0⟩:=q;simp only at h;cases hs:tP k' k with
   |false=>rw[hs]at h;cases h
   | true=>
    rw[hs]at h;simp only[FW,FU]at h;subst h;obtain⟨u,x,rfl,_,g2,g3,g4,rfl⟩:=h1;rw[Nat.sub_zero]at g2;obtain⟨hkk,_,hbits⟩:=xF hs g3 hk;have g2':ents[i]? = some x:=by simpa using g2
    have hmod:(ents.modify i fun e=>{ e with key:=vk,val:=vv }).toList=ents.toList.set i { x with key:=vk,val:=vv }:=by
     apply H8;intro j;rw[GJ,Array.getElem?_modify,G8];by_cases hij:i=j
     ·subst hij;obtain⟨hlt,hgx⟩:=GC.1 g2';simp[hgx,hlt]
     ·simp[hij]
    have hmap:(ents.toList.set i { x with key:=vk,val:=vv }).map (·.born)=ents.toList.map (·.born):=by
     rw[List.map_set];apply H8;intro j;rw[G8];by_cases hij:i=j
     ·subst hij;obtain⟨hlt,hgx⟩:=GC.1 g2';simp[hlt,hgx]
     ·simp[hij]
    refine⟨ents.modify i fun e=>{ e with key:=vk,val:=vv },clock,?_,?_,?_,by simp,fun _=>?_⟩
    ·unfold Instr.mapUpdate;simp only[Sem.run_bind,run_underlying hu,Result.andThen_ok,mj hb,hc,h2];simp only[g2',Ha,Option.getD_some,Instr.keyThatStays,hbits 9999,Gm,Sem.run_pure,Result.andThen_ok,qU _ hb]
    ·rw [hmod];refine⟨by simpa using he.1,fun j a y ha hy=>?_⟩;rw[G8]at ha hy;by_cases hij:i=j
     ·subst hij;simp only[Gm]at ha hy;split at ha
      ·split at hy
       ·simp only[FU]at ha hy;subst ha hy;exact⟨k,v,rfl,hk,hv⟩
       ·cases hy
      ·cases ha
     ·simp only[hij,Gl]at ha hy;exact he.2 j a y ha hy
    ·rw[hmod];have hxm:x∈ents.toList:=GT g2;refine⟨fun y hy=>?_,?_⟩
     ·have:y.born∈(ents.toList.set i { x with key:=vk,val:=vv }).map (·.born):=List.mem_map_of_mem hy;rw[hmap,HD]at this;obtain⟨z,hz,hzb⟩:=this;rw[<- hzb];exact hst.1 z hz
     ·have h3:(ents.toList.map (·.born)).Pairwise (· ≠·):=Ib.2 hst.2;rw[<- hmap]at h3;exact Ib.1 h3
    ·exact⟨rfl,by rw[hmod,hmap]⟩
end
end Go.Av
namespace Go.Av
variable [Dr]
omit [Dr]in
theorem oM{a b:List MapEntry}(h:a.map (·.born)=b.map (·.born))(seen:Array Nat):kE a seen=kE b seen:=by
 have hl:a.length=b.length:=by simpa using FX List.length h
 unfold kE;rw[hl];refine List.filter_congr fun i _=>?_
 have:=FX (·[i]?) h
 simp only[GW]at this;cases ha:a[i]? <;> cases hb:b[i]? <;> rw[ha,hb]at this<;>simp at this<;>simp[this]
omit [Dr]in
theorem oi.keepM{S S':am}{β β':List a7}{w w':World}{h h':Hp}{b:Nat}{cs:List AV}(H:oi S β w h b cs)(hS:S.le S')(hβ:dm β β')(hb:w'.heap[b]? = w.heap[b]?)
  (hm:∀(l b':Nat)(es:List AV),β[l]? = some (b',0)->h'[l]? = some [.tup es]->∃es0,h[l]? = some [.tup es0]/\es0.length<=es.length/\
   (es.length=es0.length->∀ents clock,w.heap[b']? = some (.map ents clock)->∃ents',w'.heap[b']? = some (.map ents' clock)/\ents'.toList.map (·.born)=ents.toList.map (·.born))):oi S' β' w' h' b cs:=by
 rcases H with⟨es,h1,ents,clock,h2,h3,h4⟩|⟨l,n,ps,b',since,seen,last,cur,h1,h2,h3,h4,hcu,h5⟩|⟨h1,since,seen,last,h2⟩
 ·exact .inl ⟨es,h1,ents,clock,hb.trans h2,h3.mono hS hβ,h4⟩
 ·refine .inr (.inl ⟨l,n,ps,b',since,seen,last,cur,h1,hβ _ _ h2,h3,hb.trans h4,hcu,fun es he=>?_⟩);obtain⟨es0,g1,g2,g3⟩:=hm l b' es h2 he;obtain⟨k1,k2⟩:=h5 es0 g1;refine⟨by omega,fun hn=>?_⟩;obtain⟨ents,clock,j1,j2,j3,j4,j5⟩:=k2 (by omega);obtain⟨ents',i1,i2⟩:=g3 (by omega) ents clock j1;refine⟨ents',clock,i1,fun x hx=>?_,by rw[j3,oM i2],j4,fun c hc=>?_⟩
  ·have:x.born∈ents'.toList.map (·.born):=List.mem_map_of_mem hx;rw[i2,HD]at this;obtain⟨z,hz,hzb⟩:=this;rw[<- hzb];exact j2 z hz
  ·obtain⟨x,hx,hs⟩:=j5 c hc;have h1:(ents'.toList.map (·.born))[c]? = some x.born:=by rw[i2,GW,hx];rfl
   rw[GW]at h1;cases hy:ents'.toList[c]? with
   |none=>rw[hy]at h1;cases h1
   |some y=>
    rw[hy]at h1;simp only[Ha,FU]at h1;exact⟨y,rfl,by rw[hs,h1]⟩
 ·exact .inr (.inr ⟨h1,since,seen,last,hb.trans h2⟩)
omit [Dr]in
theorem dH.mapRow{S:am}{β:List a7}{w:World}{ω:Nat->Owner}{h:Hp}(H:dH S β w ω h){l b:Nat}{es:List AV}(hl:h[l]? = some [.tup es])(hb:β[l]? = some (b,0)):
  ∃ents clock,w.heap[b]? = some (.map ents clock)/\fa S β es ents.toList/\kO ents.toList clock/\ω b= .heap l/\∀o,S b o=none:=by
 rcases H l _ hl (by simp)with⟨b',x,k1,k2,k3,k4,k5,_⟩|⟨b',k1,k2,k3,k4⟩
 ·rw[hb]at k1;simp only[FU,GN]at k1;have h2:=k4.length;simp at h2;omega
 ·rw[hb]at k1;simp only[FU,GN,Ix]at k1;subst k1;rcases k4 with⟨es',h1,ents,clock,h2,h3,h4⟩|⟨l',n,ps,b',since,seen,last,cur,h1,_⟩|⟨h1,_⟩
  ·simp only[HT,AV.tup.injEq,Ix]at h1;subst h1;exact⟨ents,clock,h2,h3,h4,k2,k3⟩
  ·simp at h1
  ·simp at h1
section
variable {P:Program} {cx:Cx} {c:Entry} {N:Nat} {U:Nat->Prop} {e:Env} {h:Hp} {a:Act} {w:World} {S:am} {β:List a7} {γ:Nat->Value} {lam:Nat->Option Nat} {ω:Nat->Owner} {o:Oper} {gid:Nat}
theorem Gro.allocO(w:World)(o:Obj):Gro w (w.alloc o):=⟨by simp,rfl,rfl,rfl,fun _=>by simp⟩
theorem FR.allocO(H:FR c N U e h a w S β γ lam ω)(o:Obj):FR c N U e h a (w.alloc o) S β γ lam ω:=
 H.world (fun b o' v hv=>by rw[cell_of_heap (alloc_old w _ (H.wf.lt hv))];exact H.wf b o' v hv) (Gro.allocO w o) (fun b hb=>⟨alloc_old w _ hb,fun _=>rfl⟩) (am.le_refl S)
theorem FR.newM(H:FR c N U e h a w S β γ lam ω):
  ∃ω',FR c N U e (h++[[.tup []]]) a (w.alloc (.map #[] 0)) S (β++[(w.heap.size,0)]) γ lam ω'/\(β++[(w.heap.size,0)])[h.length]? = some (w.heap.size,0):=by
 have H2:=H.allocO (.map #[] 0);have hext:dm β (β++[(w.heap.size,0)]):=fun l b hb=>by
  have:l<β.length:=by
   rcases Gd l β.length with h|h
   ·exact h
   ·rw[F8 h]at hb;simp at hb
  rw[Gb this];exact hb
 have hnew:(β++[(w.heap.size,0)])[h.length]? = some (w.heap.size,0):=by rw[<- H.hlen];simp
 have hωn:ω w.heap.size= .no:=by
  cases ho:ω w.heap.size with
  |no=>rfl
  |_=>have:=(H.mine w.heap.size (by rw[ho];simp)).2;omega
 have hω:∀b,ω b≠.no->b9 ω w.heap.size (.heap h.length) b=ω b:=fun b hb=>by
  unfold b9;rw[if_neg];rintro rfl;exact hb hωn
 refine⟨b9 ω w.heap.size (.heap h.length),⟨H2.wf,H2.gro,H2.keep,H2.le,dm.trans H2.ext hext,by simp[H.hlen],?_,H2.tsz,?_,H2.grps,?_,?_,?_,H2.used⟩,hnew⟩
 ·intro l cs' hl hne;rcases Gd l h.length with hlt|hge
  ·rw[Gb hlt]at hl;rcases H2.heap l cs' hl hne with⟨b,x,k1,k2,k3,k4,k5⟩|⟨b,k1,k2,k3,k4⟩
   ·exact .inl ⟨b,x,hext _ _ k1,k2,by rw[hω b (by rw[k3];simp)];exact k3,k4.mono (am.le_refl S) hext,k5⟩
   ·refine .inr ⟨b,hext _ _ k1,by rw[hω b (by rw[k2];simp)];exact k2,k3,k4.keepM (am.le_refl S) hext rfl fun j b' es hj he=>?_⟩;have hjl:j<h.length:=by
     rw[<- H.hlen];exact (Hi.1 hj).1
    rw[Gb hjl]at he;exact⟨es,he,FZ _,fun _ ents clock hh=>⟨ents,hh,rfl⟩⟩
  ·rw[Gj hge]at hl;have hlz:l=h.length:=by
    rcases GF (l-h.length)with h0|h0
    ·omega
    ·rw[F8 (by simp;omega)]at hl;simp at hl
   subst hlz;simp only[Hz,Ga,FU]at hl;subst hl;exact .inr ⟨w.heap.size,hnew,by simp[b9],fun o=>H.wf.none (FZ _) o,.inl ⟨[],rfl,#[],0,heap_alloc_new w _,⟨rfl,fun i e x he=>by simp at he⟩,fun x hx=>by simp at hx,by simp⟩⟩
 ·intro t' ht'
  have:=H2.slots t' ht'
  cases hv:(e.get t').v with
  |val av=>rw[hv]at this;exact VR.mono (am.le_refl S) hext _ _ this
  |loc B off=>rw[hv]at this;exact this
 ·intro B n hB;obtain⟨h1,h2,h3,b,y,h4,h5,h6,h7,h8⟩:=H2.lblk B n hB;refine⟨h1,h2,h3,b,y,h4,h5,by rw[hω b (by rw[h6];simp)];exact h6,h7,fun i hi=>?_⟩;obtain⟨v,a',g1,g2,g3,g4⟩:=h8 i hi;exact⟨v,a',g1,g2,VR.mono (am.le_refl S) hext _ _ g3,g4⟩
 ·intro g z hg;obtain⟨a',len,cap,g1,g2,g3,g4⟩:=H2.free g z hg;refine⟨a',len,cap,g1,g2,g3,g4.imp id ?_⟩;rintro⟨sz,k,off,y,k1,k2,k3,k4,k5,k6⟩;exact⟨sz,k,off,y,k1,k2,k3,k4,by rw[hω k (by rw[k5];simp)];exact k5,k6⟩
 ·intro b hb;unfold b9 at hb;split at hb
  ·rename_i hbb;subst hbb;exact⟨.inr H.size,by simp⟩
  ·rename_i hbb;exact⟨(H2.mine b hb).1.of_eq (by unfold b9;rw[if_neg hbb]),(H2.mine b hb).2⟩
omit [Dr]in
theorem ix(w:World)(b:Nat)(o:Obj){k:Nat}(h:k≠b):(d9 w b o).heap[k]? = w.heap[k]?:=by
 simp[d9,Ne.symm h]
omit [Dr]in
theorem ml{w:World}{b:Nat}(o:Obj)(h:b<w.heap.size):(d9 w b o).heap[b]? = some o:=by
 simp[d9,h]
theorem FR.turnM(H:FR c N U e h a w S β γ lam ω){l b clock clock':Nat}{es es':List AV}{ents ents':Array MapEntry}(hl:h[l]? = some [.tup es])(hb:β[l]? = some (b,0))(hw:w.heap[b]? = some (.map ents clock))(he:fa S β es' ents'.toList)(hst:kO ents'.toList clock')(hle:es.length<=es'.length)(hborn:es'.length=es.length->clock'=clock/\ents'.toList.map (·.born)=ents.toList.map (·.born)):
  FR c N U e (h.set l [.tup es']) a (d9 w b (.map ents' clock')) S β γ lam ω:=by
 obtain⟨ents0,clock0,h1,_,_,h3,h5⟩:=H.heap.mapRow hl hb;rw[hw]at h1;simp only[FU,Obj.map.injEq]at h1;obtain⟨rfl,rfl⟩:=h1;have hbw:b<w.heap.size:=(GC.1 hw).1;have hlt:l<h.length:=by
  rcases Gd l h.length with h'|h'
  ·exact h'
  ·rw[F8 h']at hl;simp at hl
 have hωb:∀k,ω k≠.heap l->k≠b:=fun k hk=>by rintro rfl;exact hk h3
 have hother:∀k,ω k≠.heap l->(d9 w b (.map ents' clock')).heap[k]? = w.heap[k]?:=fun k hk=>ix w b _ (hωb k hk);have hg:Gro w (d9 w b (.map ents' clock')):=⟨by simp[d9],rfl,rfl,rfl,fun _=>FZ _⟩;refine⟨fun k o v hv=>?_,H.gro.trans hg,fun k hk hE=>?_,H.le,H.ext,by simp[H.hlen],?_,H.tsz,H.slots,H.grps,?_,?_,fun k hk=>⟨(H.mine k hk).1,by simpa [d9]using(H.mine k hk).2⟩,H.used⟩
 ·have hkb:k≠b:=by rintro rfl;rw[h5]at hv;cases hv
  rw[cell_of_heap (ix w b _ hkb)];exact H.wf k o v hv
 ·have hkb:k≠b:=by
   rintro rfl
   have:=(H.mine k (by rw[h3];simp)).1.low
   rcases this with h|h
   ·exact hE h
   ·omega
  have:=H.keep k hk hE
  exact⟨by rw[ix w b _ hkb];exact this.1,this.2⟩
 ·intro j ds hj hd;rw[G8]at hj;split at hj
  ·rename_i hlj;subst hlj;simp only[FU]at hj;subst hj;exact .inr ⟨b,hb,h3,h5,.inl ⟨es',rfl,ents',clock',ml _ hbw,he,hst⟩⟩
  ·rename_i hlj;rcases H.heap j ds hj hd with⟨k,x,k1,k2,k3,k4,k5⟩|⟨k,k1,k2,k3,k4⟩
   ·have hk:=hother k (by rw[k3];simp only[H1,Owner.heap.injEq];exact fun h=>hlj h.symm);exact .inl ⟨k,x,k1,k2.of_eq hk,k3,k4,k5.1,fun t ht=>by obtain⟨z,hz⟩:=k5.2 t ht;exact⟨z,hk.trans hz⟩⟩
   ·have hk:=hother k (by rw[k2];simp only[H1,Owner.heap.injEq];exact fun h=>hlj h.symm);refine .inr ⟨k,k1,k2,k3,k4.keepM (am.le_refl S) (dm.refl β) hk fun i b' es2 hi he2=>?_⟩;rw[G8]at he2;split at he2
    ·rename_i hli;subst hli;simp only[FU,HT,AV.tup.injEq,Ix]at he2;subst he2;rw[hb]at hi;simp only[FU,GN,Ix]at hi;subst hi;refine⟨es,hl,hle,fun hh ents2 clock2 h2=>?_⟩;rw[hw]at h2;simp only[FU,Obj.map.injEq]at h2;obtain⟨rfl,rfl⟩:=h2;exact⟨ents',by rw[ml _ hbw,(hborn hh).1],(hborn hh).2⟩
    ·rename_i hli;refine⟨es2,he2,FZ _,fun _ ents2 clock2 h2=>⟨ents2,?_,rfl⟩⟩;obtain⟨_,_,_,_,_,g,_⟩:=H.heap.mapRow he2 hi;rw[hother b' (by rw[g];simp only[H1,Owner.heap.injEq];exact fun h=>hli h.symm)];exact h2
 ·intro B n hB;obtain⟨k1,k2,k3,k,z,k4,k5,k6,k7,k8⟩:=H.lblk B n hB;exact⟨k1,k2,k3,k,z,k4,k5.of_eq (hother k (by rw[k6];simp)),k6,k7,k8⟩
 ·intro g z hg;obtain⟨a',len,cap,g1,g2,g3,g4⟩:=H.free g z hg;refine⟨a',len,cap,g1,g2,g3,g4.imp id ?_⟩;rintro⟨sz,k,off,z',k1,k2,k3,k4,k5,k6⟩;exact⟨sz,k,off,z',k1,k2,k3.of_eq (hother k (by rw[k5];simp)),k4,k5,k6⟩
theorem sf(H:FR c N U e h a w S β γ lam ω)(hd:∀t,o.dst=some t->t<N){t:TypeId}(ho:o.op= .makeMap t none):After P c N (UG U gid) (aG e o.dst (.dyn oS .ofV) h) o a w:=by
 obtain⟨ω',F,hnew⟩:=H.newM;have hrun:(execOp a.eval o).run P w= .ok (.value (.map (some w.heap.size))) (w.alloc (.map #[] 0)):=by
  simp[execOp,ho,Instr.makeMap]
 refine After.val hrun (Fy ⟨_,_,γ,lam,ω',F.setV hd ?_⟩);simp only[VR];exact⟨_,hnew,rfl,rfl⟩
theorem uL(hT:TOK P cx.T)(H:FR c N U e h a w S β γ lam ω)(hd:∀t,o.dst=some t->t<N){t:TypeId}{x i:Operand}{ok:Bool}(ho:o.op= .lookup t x i ok)(hx:∀t,x= .tmp t->t<1000)(hi:∀t,i= .tmp t->t<1000)(hr:aG e o.dst (.dyn (kg cx.T t (opnd e x) (opnd e i) ok) .ofV) h≠.fail):After P c N (UG U gid) (aG e o.dst (.dyn (kg cx.T t (opnd e x) (opnd e i) ok) .ofV) h) o a w:=by
 have hvx:=aK H x hx;have hvi:=aK H i hi;simp only[aG,ae,M.pure]at hr |-;unfold kg at hr |-;cases hes:jS h (opnd e x)with
 |none=>rw[hes]at hr;exact absurd rfl hr
 | some es=>
  rw[hes]at hr;simp only at hr |-;cases hl:nG cx.T t es (opnd e i) ok with
  |none=>rw[hl]at hr;exact absurd rfl hr
  | some r=>
   have key:mC P w S β (Instr.lookup t (a.eval x) (a.eval i) ok) r:=by
    unfold jS at hes;split at hes
    ·rename_i l hq;split at hes
     ·rename_i es' hh;simp only[FU]at hes;subst hes;rw[hq]at hvx;simp only[VR]at hvx;obtain⟨⟨b,n⟩,hb,h0,hv⟩:=hvx;simp only at h0;subst h0;obtain⟨ents,clock,g1,g2,_⟩:=H.heap.mapRow hh hb;exact look_ok hT hl hvi g2 (.inr ⟨b,clock,hv,g1⟩)
     ·cases hes
    ·rename_i hq;simp only[FU]at hes;subst hes;rw[hq]at hvx;simp only[VR]at hvx;exact look_ok hT hl hvi (ents:=#[]) ⟨rfl,fun i e x he=>by simp at he⟩ (.inl ⟨hvx,rfl⟩)
    ·cases hes
   obtain⟨v,h1,h2⟩:=key;exact After.val (v:=v) (w':=w) (by simp only[execOp,ho,Sem.run_bind,h1,Result.andThen_ok,Sem.run_pure]) (Fy ⟨S,β,γ,lam,ω,H.setV hd h2⟩)
theorem xw(hT:TOK P cx.T)(H:FR c N U e h a w S β γ lam ω){t:TypeId}{m k x:Operand}(ho:o.op= .mapUpdate t m k x\/o.op= .insert t m k x)(hm:∀t,m= .tmp t->t<1000)(hk:∀t,k= .tmp t->t<1000)(hx:∀t,x= .tmp t->t<1000)(hr:aG e o.dst (gD cx e o.dst t m k x) h≠.fail):After P c N (UG U gid) (aG e o.dst (gD cx e o.dst t m k x) h) o a w:=by
 have hvm:=aK H m hm;have hvk:=aK H k hk;have hvx:=aK H x hx;unfold gD at hr |-;cases hdst:o.dst with
 |some d=>rw[hdst]at hr;exact absurd rfl hr
 | none =>
  rw[hdst]at hr;simp only[aG,ae,M.pure]at hr |-;unfold xu at hr |-;cases hmt:lW cx.T t with
  |none=>rw[hmt]at hr;exact absurd rfl hr
  | some q=>
   obtain⟨kt,et⟩:=q;rw[hmt]at hr;simp only at hr |-;cases hck:uj cx.T 20 kt (opnd e k)with
   |false=>rw[hck]at hr;exact absurd rfl hr
   | true=>
    rw[hck]at hr;simp only[FW]at hr |-;cases hq:opnd e m with
    | mp l=>
     rw[hq]at hr hvm;simp only at hr |-;cases hh:h[l]? with
     |none=>rw[hh]at hr;exact absurd rfl hr
     | some cs=>
      rw[hh]at hr
      match cs,hh,hr with
      | [.tup es],hh,hr=>
       simp only at hr |-;cases hp:y6 cx.T kt es (opnd e k) (opnd e x)with
       |none=>rw[hp]at hr;exact absurd rfl hr
       |some es'=>
        simp only[VR]at hvm;obtain⟨⟨b,n⟩,hb,h0,hv⟩:=hvm;simp only at h0;subst h0;obtain⟨ents,clock,g1,g2,g3,_⟩:=H.heap.mapRow hh hb;obtain⟨ents',clock',k1,k2,k3,k4,k5⟩:=BL hT hmt hck hp hvk hvx g2 g3 g1;refine After.skip (w':=d9 w b (.map ents' clock')) hdst ?_ ?_
        ·rcases ho with ho|ho<;>simp only[execOp,ho,hv,Sem.run_bind,k1,Result.andThen_ok,Sem.run_pure]
        ·exact Fy ⟨_,_,_,_,_,H.turnM hh hb g1 k2 k3 k4 k5⟩
    |_=>rw[hq]at hr;exact absurd rfl hr
end
end Go.Av
namespace Go.Av
variable [Dr]
section
variable {c:Entry} {N:Nat} {U:Nat->Prop} {e:Env} {h:Hp} {a:Act} {w:World} {S:am} {β:List a7} {γ:Nat->Value} {lam:Nat->Option Nat} {ω:Nat->Owner} {P:Program} {cx:Cx} {gid:Nat} {o:Oper}
theorem xx(hT:TOK P cx.T)(H:FR c N U e h a w S β γ lam ω)(hd:∀t,o.dst=some t->t<N){t:TypeId}{x:Operand}(ho:o.op= .range t x)(hx:∀t,x= .tmp t->t<1000)(hr:aG e o.dst (.dyn (oX cx.T t (opnd e x)) .ofV) h≠.fail):After P c N (UG U gid) (aG e o.dst (.dyn (oX cx.T t (opnd e x)) .ofV) h) o a w:=absurd rfl hr
theorem wy(H:FR c N U e h a w S β γ lam ω)(hd:∀t,o.dst=some t->t<N){x:Operand}(ho:o.op= .entry x)(hx:∀t,x= .tmp t->t<1000)(hr:aG e o.dst (.dyn (lq (opnd e x)) .ofV) h≠.fail):After P c N (UG U gid) (aG e o.dst (.dyn (lq (opnd e x)) .ofV) h) o a w:=absurd rfl hr
end
end Go.Av
namespace Go.Av
variable [Dr]
section
variable {P:Program} {cx:Cx} {c:Entry} {N:Nat} {U:Nat->Prop} {e:Env} {h:Hp} {a:Act} {w:World} {S:am} {β:List a7} {γ:Nat->Value} {lam:Nat->Option Nat} {ω:Nat->Owner} {o:Oper} {gid:Nat}
open Classical in
theorem Bf(hT:TOK P cx.T)(H:FR c N U e h a w S β γ lam ω)(hd:∀t,o.dst=some t->t<N)(hU:∀g,gid<=g->g<gid+1000->¬U g){t:Nat}{x:Operand}{lo hi mx:Option Operand}(ho:o.op= .slice t x lo hi mx)(hx:∀t,x= .tmp t->t<1000)(hlo:∀y,lo=some y->∀t,y= .tmp t->t<1000)(hr:aG e o.dst (iX cx e gid t x lo hi mx) h≠.fail):After P c N (UG U gid) (aG e o.dst (iX cx e gid t x lo hi mx) h) o a w:=by
 unfold iX at hr |-;cases x with
 | tmp s =>
  have hs:=hx s rfl;simp only at hr |-;cases hg:(e.get s).g with
  |none=>rw[hg]at hr;exact absurd rfl hr
  | some g =>
   rw[hg]at hr;simp only at hr |-;cases hal:aA e.al g with
   |none=>rw[hal]at hr;exact absurd rfl hr
   | some z0 =>
    rw[hal]at hr;cases z0 with
    |none=>exact absurd rfl hr
    | some z =>
     simp only at hr |-;cases hck:rN cx.T t z&&hi.isNone&&mx.isNone with
     |false=>rw[hck]at hr;exact absurd rfl hr
     | true =>
      rw[hck]at hr;simp only[FW]at hr |-;simp only[FV,Option.isNone_iff_eq_none]at hck;obtain⟨⟨hz,rfl⟩,rfl⟩:=hck;have hvx:=aK H (.tmp s) (fun t ht=>by cases ht;exact hs);cases hc:Bd cx.T t (opnd e (.tmp s)) (lo.map (opnd e))with
      |none=>rw[hc]at hr;exact absurd rfl hr
      | some r=>
       unfold Bd at hc;split at hc
       ·rename_i es hq;rw[hq]at hvx;have hvx0:=hvx;simp only[VR]at hvx;obtain⟨ad,cap,hv,hle,hnn,hqq⟩:=hvx;rw[hv]at hvx0;obtain⟨l,ei,ti,el,ht,hk,hei,hl,hrun,hvr⟩:=Be (P:=P) (w:=w) hT hc hvx0 (fQ H lo hlo);have hzz:z=ei.size:=by
         unfold rN bV at hz;rw[ht]at hz;simp only[hk,hei,Ha]at hz;exact F6 hz
        subst hzz;have hrun':(execOp a.eval o).run P w= .ok (.value (.slice (if cap=l then ad else ad.map (·.add (l*ei.size))) (es.length-l) (cap-l))) w:=by
         simp only[execOp,ho,Option.map_none,Sem.run_bind];rw[hv,hrun];simp only[Result.andThen_ok,Sem.run_pure]
        have hval:a.tmps.getD s undef=γ g:=H.grps s g (some ei.size) hs hg hal;have hfree:=H.free g (some ei.size) hal;have hav:a.eval (.tmp s)=a.tmps.getD s undef:=rfl;rw[<- hval,<- hav,hv]at hfree;obtain⟨a',len,cap',he,f1,f2,f3⟩:=hfree;simp only[Value.slice.injEq]at he;obtain⟨rfl,rfl,rfl⟩:=he;let ω':Nat->Owner:=fun k=>if ω k= .grp g then .grp gid else ω k
        have F:=H.regrp (r:=r) (v:=.slice (if cap=l then ad else ad.map (·.add (l*ei.size))) (es.length-l) (cap-l)) (gid:=gid) (z:=some ei.size) (g0:=some g) (w':=w) (S':=S) (ω':=ω') hd hU H.wf (Gro.refl w) (am.le_refl S)
         (fun k _ _=>⟨rfl,fun _=>rfl⟩) (fun k _ hk=>if_neg (hk g rfl)) (fun b hb=>by
          by_cases hbg:ω b= .grp g
          ·have:=H.mine b (by rw[hbg];simp)
           exact⟨.inr (this.1.grp hbg),this.2⟩
          ·have hb':ω b≠.no:=by
            have e1:ω' b=ω b:=if_neg hbg;rw[<- e1];exact hb
           have:=H.mine b hb'
           exact⟨this.1.of_eq (if_neg hbg),this.2⟩) hvr (by
          refine⟨_,_,_,rfl,by omega,fun hn=>?_,?_⟩
          ·split at hn
           ·omega
           ·simp only[Option.map_eq_none_iff]at hn
            have:=f2 hn
            omega
          ·rcases f3 with f3|⟨sz,b,off,x,g1,g2,g3,g4,g5,g6⟩
           ·left;omega
           ·by_cases hcl:cap=l
            ·left;omega
            ·right;simp only[FU]at g1;subst g1 g2;refine⟨ei.size,b,off+l*ei.size,x,rfl,by rw[if_neg hcl,Ha,addr_add],g3,?_,by show (if ω b= .grp g then Owner.grp gid else ω b)=_;rw[FY g5],fun o ho=>g6 o ?_⟩
             ·rw[HZ];have:l*ei.size<=cap*ei.size:=Gc _ (by omega);omega
             ·rw[HZ]at ho;have:l*ei.size<=es.length*ei.size:=Gc _ hl;omega)
        simp only[aG,ae,ah,M.pure];exact After.val hrun' ⟨_,_,_,_,ω',F⟩
       ·cases hc
 |_=>exact absurd rfl hr
end
end Go.Av
namespace Go.Av
variable [Dr]
section
variable {P:Program} {cx:Cx} {c:Entry} {N:Nat} {U:Nat->Prop} {e:Env} {h:Hp} {a:Act} {w:World} {S:am} {β:List a7} {γ:Nat->Value} {lam:Nat->Option Nat} {ω:Nat->Owner} {o:Oper} {gid:Nat}
omit [Dr]in
theorem lL{x:Operand}(h:aN x=true):x= .const (.slice none 0 0):=by
 unfold aN at h;split at h
 ·rfl
 ·simp at h
theorem wM{m:M AV}(hd:∀t,o.dst=some t->t<N)(hl:aG e o.dst (.dyn m .ofV) h≠.fail->After P c N (UG U gid) (aG e o.dst (.dyn m .ofV) h) o a w)(hr:aG e o.dst (.dyn (ae m tj) .ofV) h≠.fail):After P c N (UG U gid) (aG e o.dst (.dyn (ae m tj) .ofV) h) o a w:=by
 intro next Q hn hp
 simp only[aG,ae,tj,M.pure]at hr hn hp hl;cases hm:m h with
 |fail=>rw[hm]at hr;exact absurd rfl hr
 |pan pv h1=>
  rw[hm]at hp hl;exact hl (by simp) next Q (fun e' h' a' w' h1=>by cases h1) hp
 |ok v h1=>
  rw[hm]at hn hl;refine hl (by simp) next Q (fun e' h' a' w' k1 k2 k3=>?_) (fun pv h' v w' k1=>by cases k1)
  cases k1;exact hn _ _ a' w' rfl (io (gid:=gid) hd (Shape.ofV ..) k2) k3
omit [Dr]in
theorem l8{x:Operand}(h:VR S β (opnd e x) (a.eval x)):VR S β (iY e x) (a.eval x):=by
 unfold iY;cases hn:aN x with
 |false=>exact h
 |true=>
  unfold aN at hn;split at hn
  ·simp[Act.eval,VR]
  ·cases hn
omit [Dr]in
theorem EW{f g:Operand->AV}{v:Operand->Value}{l:List Operand}(_:aP S β (l.map f) (l.map v))(h:∀x∈l,VR S β (g x) (v x)):aP S β (l.map g) (l.map v):=by
 induction l with
 |nil=>simp[aP]
 |cons x l ih=>
  rename_i hh;simp only[GL,aP]at hh |-;obtain⟨y,ys,hy,_,h2⟩:=hh;cases hy;exact⟨_,_,rfl,h x (by simp),ih h2 fun y hy=>h y (by simp[hy])⟩
theorem yo(hT:TOK P cx.T)(hC:bC P cx.own cx.call)(H:FR c N U e h a w S β γ lam ω)(hd:∀t,o.dst=some t->t<N)(hU:∀g,gid<=g->g<gid+1000->¬U g){cc:Call}(ho:o.op= .call cc)(ht:∀x∈o.op.operands.toList,∀t,x= .tmp t->t<1000)(hr:aG e o.dst (dM cx e gid o cc) h≠.fail):After P c N (UG U gid) (aG e o.dst (dM cx e gid o cc) h) o a w:=by
 have hargs:∀x∈cc.args.toList,∀t,x= .tmp t->t<1000:=fun x hx t hxt=>ht x (by rw[ho];simp[Op.operands,Call.operands];exact .inr (by simpa using hx)) t hxt;have hvs:=iZ H cc.args.toList hargs;have hmap:cc.args.map a.eval=(cc.args.toList.map a.eval).toArray:=by apply Hl;simp
 unfold dM at hr |-;cases hcal:cc.callee with
 |invoke r m=>rw[hcal]at hr;exact absurd rfl hr
 | value f=>
  rw[hcal]at hr;have hfv:∀t,f= .tmp t->t<1000:=fun t hft=>ht f (by rw[ho];simp[Op.operands,Call.operands,hcal]) t hft;have hclos:∀(hr:aG e o.dst (.dyn (b7 cx.call (opnd e f) (cc.args.toList.map (opnd e))) .ofV) h≠.fail),After P c N (UG U gid) (aG e o.dst (.dyn (b7 cx.call (opnd e f) (cc.args.toList.map (opnd e))) .ofV) h) o a w:=by
   intro hr;have hf:=aK H f hfv;simp only[aG]at hr |-;generalize hq:opnd e f=q at hr hf |-;unfold b7 at hr |-;split at hr
   ·rename_i g fi cap;simp only[VR]at hf;obtain⟨xs,ys,hav,hx,hy⟩:=hf;refine ie hC H hd hU ((hx.append hvs).append hy) (fun hfn=>?_) (.inl fun v=>rfl) hr;have hargs':(xs++cc.args.toList.map a.eval++ys).toArray=xs.toArray++cc.args.map a.eval++ys.toArray:=by rw[hmap];simp
    simp only[execOp,ho,resolve,hcal,hav,Deferred.ofValue,Sem.run_bind,Sem.run_pure,Result.andThen_ok,invoke];rw[hargs'];exact eL (w:=w) hfn
   ·exact absurd rfl hr
  cases f with
  | func f=>
   simp only at hr |-;have hrunc:∀hfn,(execOp a.eval o).run P w= .ok (.enter f (cc.args.toList.map a.eval).toArray) w:=fun hfn=>by
    simp only[execOp,ho,resolve,hcal,Act.eval,Deferred.ofValue,Sem.run_bind,Sem.run_pure,Result.andThen_ok,invoke];rw[hmap];simpa using eL (w:=w) (args:=(cc.args.toList.map a.eval).toArray) hfn
   cases hfz:bd cx.ann.fz o.dst with
   | true=>
    rw[hfz]at hr;simp only[FW]at hr |-;cases hq:!(cx.iso f)&&!(cx.nw f)&&(cx.own f).isNone with
    |false=>rw[hq]at hr;exact absurd rfl hr
    |true=>
     rw[hq]at hr;simp only[FW]at hr |-;exact wM (m:=cx.call f (cc.args.toList.map (opnd e))) hd (fun hr=>ie hC H hd hU hvs hrunc (.inl fun v=>rfl) hr) hr
   |false=>
   rw[hfz]at hr;simp only[F0]at hr |-;have hvt:aP S β (cc.args.toList.map (kh (bd cx.ann.hb o.dst) e)) (cc.args.toList.map a.eval):=by
    refine EW hvs fun x hx=>?_;unfold kh;cases bd cx.ann.hb o.dst with
    |false=>exact aK H x (hargs x hx)
    |true=>exact l8 (aK H x (hargs x hx))
   refine ie hC H hd hU hvt (fun hfn=>?_) ?_ hr
   rotate_left
   ·cases hof:cx.own f with
    |none=>exact .inl fun v=>rfl
    |some sz=>exact .inr ⟨sz,rfl,fun v=>rfl⟩
   simp only[execOp,ho,resolve,hcal,Act.eval,Deferred.ofValue,Sem.run_bind,Sem.run_pure,Result.andThen_ok,invoke];rw[hmap];simpa using eL (w:=w) (args:=(cc.args.toList.map a.eval).toArray) hfn
  |tmp t=>exact hclos hr
  |const v=>exact hclos hr
  |global g=>exact hclos hr
 | builtin b=>
  rw[hcal]at hr;cases b<;>simp only at hr |- <;> (try exact absurd rfl hr)
  case append=>
   split at hr
   ·rename_i t u x y hts hxs;cases hu:eF cx.T u with
    |false=>rw[hu]at hr;exact absurd rfl hr
    | true =>
     rw[hu]at hr;simp only[GA,F0]at hr |-;have hx:∀t,x= .tmp t->t<1000:=hargs x (by rw[hxs];simp);have hy:∀t,y= .tmp t->t<1000:=hargs y (by rw[hxs];simp);cases hha:bd cx.ann.ha o.dst with
     | true=>
      rw[hha]at hr;simp only[FW]at hr |-;cases hhb:bd cx.ann.hb o.dst with
      |true=>
       rw[hhb]at hr;exact yh hT H hd ho hcal hts hxs hx hy hu hr
      |false=>
       rw[hhb]at hr;exact yi hT H hd ho hcal hts hxs hx hy hu hr
     | false=>
      rw[hha]at hr;simp only[F0]at hr |-;cases hnc:aN x with
      | true=>
       rw[hnc]at hr;simp only[FW]at hr |-;have hxc:=lL hnc;subst hxc;have key:∀Y r,cZ cx.T t (.sl []) Y=some r->pm P S β w (a.eval y) Y->After P c N (UG U gid) (.ok (e.upd o.dst (Upd.own r gid (bV cx.T t))) h) o a w:=fun Y r happ hsrc=>
        mT hT H hd hU ho hcal hts hxs hu (as:=[]) (g0:=none) rfl (by simp only[VR];exact⟨none,0,rfl,FZ _,fun _=>rfl,fun q hq=>by cases hq⟩) (.inl ⟨rfl,rfl⟩) happ hsrc
       cases hhl:bd cx.ann.hl o.dst with
       | true=>
        rw[hhl]at hr;simp only[FW,aG,Av.ae,pw]at hr |-;cases hsa:mN h (opnd e y)with
        |none=>rw[hsa]at hr;exact absurd rfl hr
        |some es=>
         rw[hsa]at hr;simp only at hr |-;cases happ:cZ cx.T t (.sl []) (.sl es)with
         |none=>rw[happ]at hr;exact absurd rfl hr
         |some r=>exact key _ r happ (mm H (aK H y hy) hsa)
       |false=>
        rw[hhl]at hr;simp only[F0]at hr |-;cases happ:cZ cx.T t (.sl []) (opnd e y)with
        |none=>rw[happ]at hr;exact absurd rfl hr
        |some r=>exact key _ r happ (jd H.wf (aK H y hy))
      | false=>
       rw[hnc]at hr;simp only[F0]at hr |-;cases x<;>simp only at hr |- <;> (try exact absurd rfl hr);rename_i s;cases hg:(e.get s).g with
       |none=>rw[hg]at hr;exact absurd rfl hr
       | some g=>
        rw[hg]at hr;simp only at hr |-;cases hal:aA e.al g with
        |none=>rw[hal]at hr;exact absurd rfl hr
        | some z=>
         rw[hal]at hr;simp only at hr |-;cases hz:o9 z (bV cx.T t)with
         |false=>rw[hz]at hr;exact absurd rfl hr
         | true=>
          rw[hz]at hr;simp only[FW]at hr |-;have key:∀Y r,cZ cx.T t (opnd e (.tmp s)) Y=some r->pm P S β w (a.eval y) Y->After P c N (UG U gid) (.ok (e.upd o.dst { Upd.own r gid (bV cx.T t)with drop:=some g }) h) o a w:=fun Y r happ hsrc=>by
           obtain⟨as,has⟩:=yf happ;have hvx:=aK H (.tmp s) hx;rw[has]at hvx happ;have hγ:=H.grps s g z (hx s rfl) hg hal;exact mT hT H hd hU ho hcal hts hxs hu (as:=as) (g0:=some g) rfl hvx (.inr ⟨g,z,rfl,by
            have:a.eval (.tmp s)=γ g:=hγ;rw[this];exact H.free g z hal,hz⟩) happ hsrc
          cases hhl:bd cx.ann.hl o.dst with
          | true=>
           rw[hhl]at hr;simp only[FW,aG,Av.ae,pw]at hr |-;cases hsa:mN h (opnd e y)with
           |none=>rw[hsa]at hr;exact absurd rfl hr
           |some es=>
            rw[hsa]at hr;simp only at hr |-;cases happ:cZ cx.T t (opnd e (.tmp s)) (.sl es)with
            |none=>rw[happ]at hr;exact absurd rfl hr
            |some r=>exact key _ r happ (mm H (aK H y hy) hsa)
          |false=>
           rw[hhl]at hr;simp only[F0]at hr |-;cases happ:cZ cx.T t (opnd e (.tmp s)) (opnd e y)with
           |none=>rw[happ]at hr;exact absurd rfl hr
           |some r=>exact key _ r happ (jd H.wf (aK H y hy))
   ·exact absurd rfl hr
  case clear=>
   split at hr
   ·rename_i t ts x xs hts hxs;exact wk hT H hd ho hcal hts hxs (hargs x (by rw[hxs];simp)) hr
   ·exact absurd rfl hr
  case len=>
   split at hr
   ·rename_i t ts x xs hts hxs;refine cL H hd (m:=Builtin.len_ cc.argTypes o.type (cc.args.map a.eval)) ?_ (fun r hr'=>?_) hr
    ·simp only[execOp,ho,resolve,hcal,invoke,builtin,pure_bind]
    ·have h1:cc.argTypes=(t:: ts).toArray:=by apply Hl;simpa using hts
     have h2:cc.args.map a.eval=(a.eval x:: xs.map a.eval).toArray:=by rw[hmap,hxs];simp
     rw[h1,h2];exact Bm hT ts (xs.map a.eval) hr' (aK H x (hargs x (by rw[hxs];simp)))
   ·exact absurd rfl hr
  case min=>
   refine cL H hd (m:=Builtin.min_ cc.argTypes o.type (cc.args.map a.eval)) ?_ (fun r hr'=>?_) hr
   ·simp only[execOp,ho,resolve,hcal,invoke,builtin,pure_bind]
   ·obtain⟨v,rest,he,hp⟩:=oQ (P:=P) (w:=w) _ _ (FZ _) r _ hr' hvs;obtain⟨u,hu,hur⟩:=hp;exact⟨u,by rw[hmap];simp only[Builtin.min_];rw[he];simpa using hu,hur⟩
  case max=>
   refine cL H hd (m:=Builtin.max_ cc.argTypes o.type (cc.args.map a.eval)) ?_ (fun r hr'=>?_) hr
   ·simp only[execOp,ho,resolve,hcal,invoke,builtin,pure_bind]
   ·obtain⟨v,rest,he,hp⟩:=oQ (P:=P) (w:=w) _ _ (FZ _) r _ hr' hvs;obtain⟨u,hu,hur⟩:=hp;exact⟨u,by rw[hmap];simp only[Builtin.max_];rw[he];simpa using hu,hur⟩
theorem Dh(hT:TOK P cx.T)(H:FR c N U e h a w S β γ lam ω)(hd:∀t,o.dst=some t->t<N){t p:Nat}(ho:o.op= .load t (.tmp p))(hx:p<1000)(hr:aG e o.dst (BW (cK cx e o.dst t p)) h≠.fail):
  After P c N (UG U gid) (aG e o.dst (BW (cK cx e o.dst t p)) h) o a w:=by
 have hsh:bB (Shape e gid {} none) (cK cx e o.dst t p):=lR o.dst t p {};have hl:=fun hr=>tx (gid:=gid) hT H hd ho hx hr;revert hr;generalize cK cx e o.dst t p=A at hsh hl;intro hr;cases A with
 |bad=>exact absurd rfl hr
 | stat u=>
  intro next Q hn hp
  exact hl (by simp[aG,M.pure]) next Q (fun e' h' a' w' h1 h2 h3=>by
   cases h1;exact hn _ _ a' w' rfl (io hd hsh h2) h3) (fun pv h' v w' h1=>by cases h1)
 |thr v=>exact hl hr
 | dyn m sh=>
  intro next Q hn hp
  simp only[aG,BW,ae,tj,M.pure]at hr hn hp hl;cases hm:m h with
  |fail=>rw[hm]at hr;exact absurd rfl hr
  |pan pv h1=>
   rw[hm]at hp hl;exact hl (by simp) next Q (fun e' h' a' w' h1=>by cases h1) hp
  |ok v h1=>
   rw[hm]at hn hl;refine hl (by simp) next Q (fun e' h' a' w' k1 k2 k3=>?_) (fun pv h' v w' k1=>by cases k1)
   cases k1;exact hn _ _ a' w' rfl (io hd (hsh v) k2) k3
theorem xp(hT:TOK P cx.T)(hC:bC P cx.own cx.call)(H:FR c N U e h a w S β γ lam ω)(hd:∀t,o.dst=some t->t<N)(hU:∀g,gid<=g->g<gid+1000->¬U g)(ht:∀x∈o.op.operands.toList,∀t,x= .tmp t->t<1000)(hpN:∀p,uF (bv cx.ann.kinds p .L)=true->p<N)(hr:aX cx e gid o h≠.fail):After P c N (UG U gid) (aX cx e gid o h) o a w:=by
 cases ho:o.op with
 |move x=>exact tB H hd hU (.inl ho) (fun t hx=>ht x (by rw[ho];simp[Op.operands]) t hx)
 |assign x=>exact tB H hd hU (.inr ho) (fun t hx=>ht x (by rw[ho];simp[Op.operands]) t hx)
 |pick k x y=>
  have h1:=fun t hx=>ht k (by rw[ho];simp[Op.operands]) t hx;have h2:=fun t hx=>ht x (by rw[ho];simp[Op.operands]) t hx;have h3:=fun t hx=>ht y (by rw[ho];simp[Op.operands]) t hx;unfold aX dG at hr |-;rw[ho]at hr |-;simp only at hr |-;refine cL H hd (m:=do pure (if <- asBool (a.eval k)then a.eval x else a.eval y)) ?_ (fun r hr'=>y5 hr' (aK H k h1) (aK H x h2) (aK H y h3)) hr;simp only[execOp,ho,bind_assoc,pure_bind]
 |alloc t=>exact vB hT H hd hU ho hr
 |box t x=>exact A0 H hd hU ho (fun t hx=>ht x (by rw[ho];simp[Op.operands]) t hx) hr
 |build t ps=>
  have hps:∀p∈ps.toList,∀t,p.2= .tmp t->t<1000:=fun p hp t hx=>ht p.2 (by rw[ho];simp[Op.operands];exact⟨p.1,by simpa using hp⟩) t hx;unfold aX dG at hr |-;rw[ho]at hr |-;simp only at hr |-;exact cL H hd (m:=Instr.build t (ps.map fun p=>(p.1,a.eval p.2))) (by simp only[execOp,ho]) (fun r hr'=>pC hT hr' (by simpa using jx H ps.toList hps)) hr
 | buildSlice t n ps=>
  have hps:∀p∈ps.toList,∀t,p.2= .tmp t->t<1000:=fun p hp t hx=>ht p.2 (by rw[ho];simp[Op.operands];exact⟨p.1,by simpa using hp⟩) t hx;cases hha:bd cx.ann.ha o.dst with
  |false=>exact mG hT H hd hU ho hps hha hr
  |true=>
   unfold aX dG at hr |-;rw[ho]at hr |-;simp only[hha,FW]at hr |-;exact ue hT H hd ho hps hr
 | load t x=>
  unfold aX dG at hr |-;rw[ho]at hr |-;cases x with
  | tmp p=>
   have hp:=ht (.tmp p) (by rw[ho];simp[Op.operands]) p rfl;simp only at hr |-;cases hnl:bd cx.ann.nl o.dst&&eZ (e.get p)with
   |true=>rw[hnl]at hr;exact absurd rfl hr
   |false=>
   rw[hnl]at hr;simp only[F0]at hr |-;cases hz:bd cx.ann.fz o.dst with
   |false=>rw[hz]at hr;exact tx hT H hd ho hp hr
   |true=>
    rw[hz]at hr;simp only[FW]at hr |-;exact Dh hT H hd ho hp hr
  |_=>exact absurd rfl hr
 |store t x y=>
  exact xP hT H (fun _ _=>trivial) hU ho (fun t hx=>ht x (by rw[ho];simp[Op.operands]) t hx) (fun t hx=>ht y (by rw[ho];simp[Op.operands]) t hx) (fun p _ hp=>hpN p hp) hr
 |nilCheck x=>exact qC H hd ho (fun t hx=>ht x (by rw[ho];simp[Op.operands]) t hx) hr
 |binOp op t x y u=>
  have h1:=fun t hx=>ht x (by rw[ho];simp[Op.operands]) t hx;have h2:=fun t hx=>ht y (by rw[ho];simp[Op.operands]) t hx;unfold aX dG at hr |-;rw[ho]at hr |-;simp only at hr |-;cases hlit:lG cx.T op t x y with
  |true=>rw[hlit]at hr;exact absurd rfl hr
  |false=>
  rw[hlit]at hr;simp only[F0]at hr |-;exact cL H hd (m:=do eqGuard op t x y (a.eval x) (a.eval y);Go.binOp op t (a.eval x) (a.eval y)) (by simp only[execOp,ho]) (fun r hr'=>AZ hT x y hlit hr' (l8 (aK H x h1)) (l8 (aK H y h2))) hr
 |unOp op t x=>
  have h1:=fun t hx=>ht x (by rw[ho];simp[Op.operands]) t hx;unfold aX dG at hr |-;rw[ho]at hr |-;simp only at hr |-;exact cL H hd (m:=Op.unary op (a.eval x)) (by simp only[execOp,ho]) (fun r hr'=>DT hr' (aK H x h1)) hr
 |convert s t x=>
  have h1:=fun t hx=>ht x (by rw[ho];simp[Op.operands]) t hx;unfold aX dG at hr |-;rw[ho]at hr |-;simp only at hr |-;exact cL H hd (m:=convert s t (a.eval x)) (by simp only[execOp,ho]) (fun r hr'=>yF hT hr' (aK H x h1)) hr
 |makeInterface t x=>
  have h1:=fun t hx=>ht x (by rw[ho];simp[Op.operands]) t hx;unfold aX dG at hr |-;rw[ho]at hr |-;simp only at hr |-;exact cL H hd (m:=Instr.makeInterface t (a.eval x)) (by simp only[execOp,ho]) (fun r hr'=>sg hT hr' (aK H x h1)) hr
 |makeFunc f x y=>
  have h1:=iZ H x.toList (fun z hz t hx=>ht z (by rw[ho];simp[Op.operands];exact .inl (by simpa using hz)) t hx);have h2:=iZ H y.toList (fun z hz t hx=>ht z (by rw[ho];simp[Op.operands];exact .inr (by simpa using hz)) t hx);unfold aX dG at hr |-;rw[ho]at hr |-;simp only at hr |-;refine After.val (v:=.func f (x.map a.eval) (y.map a.eval)) (w':=w) (by simp[execOp,ho,Instr.makeFunc]) (Fy ⟨S,β,γ,lam,ω,H.setV hd ?_⟩);simp only[VR];have hm:∀z:Array Operand,z.map a.eval=(z.toList.map a.eval).toArray:=fun z=>by apply Hl;simp
  exact⟨_,_,by rw[hm x,hm y],h1,h2⟩
 | makeSlice t x y=>
  have hx1:∀t,x= .tmp t->t<1000:=fun t hx=>ht x (by rw[ho];simp[Op.operands]) t hx;have hy1:∀t,y= .tmp t->t<1000:=fun t hx=>ht y (by rw[ho];simp[Op.operands]) t hx;cases hha:bd cx.ann.ha o.dst with
  |false=>exact oO hT H hd hU ho hx1 hy1 hha hr
  |true=>
   unfold aX dG at hr |-;rw[ho]at hr |-;simp only[hha,FW]at hr |-;exact xj hT H hd ho hx1 hy1 hr
 | slice t x lo hi mx=>
  cases hso:bd cx.ann.so o.dst with
  |true=>
   unfold aX dG at hr |-;rw[ho]at hr |-;simp only[hso,FW]at hr |-;exact Bf hT H hd hU ho (fun t hx=>ht x (by rw[ho];simp[Op.operands]) t hx) (fun y hy t hx=>ht y (by rw[ho];simp[Op.operands,hy]) t hx) hr
  |false=>
   exact xM hT H hd hU ho (fun t hx=>ht x (by rw[ho];simp[Op.operands]) t hx) (fun y hy t hx=>ht y (by rw[ho];simp[Op.operands,hy]) t hx) (fun y hy t hx=>ht y (by rw[ho];simp[Op.operands,hy]) t hx) (fun y hy t hx=>ht y (by rw[ho];simp[Op.operands,hy]) t hx) hso hr
 |fieldAddr t x f=>exact oE hT H hd ho (fun t hx=>ht x (by rw[ho];simp[Op.operands]) t hx) hr
 |field t x f=>
  have h1:=fun t hx=>ht x (by rw[ho];simp[Op.operands]) t hx;unfold aX dG at hr |-;rw[ho]at hr |-;simp only at hr |-;exact cL H hd (m:=Instr.field t (a.eval x) f) (by simp only[execOp,ho]) (fun r hr'=>wD hT hr' (aK H x h1)) hr
 |indexAddr t x i=>exact oJ hT H hd ho (fun t hx=>ht x (by rw[ho];simp[Op.operands]) t hx) (fun t hx=>ht i (by rw[ho];simp[Op.operands]) t hx) hr
 |index t x i=>
  have h1:=fun t hx=>ht x (by rw[ho];simp[Op.operands]) t hx;have h2:=fun t hx=>ht i (by rw[ho];simp[Op.operands]) t hx;unfold aX dG at hr |-;rw[ho]at hr |-;simp only at hr |-;exact cL H hd (m:=Instr.index t (a.eval x) (a.eval i)) (by simp only[execOp,ho]) (fun r hr'=>ql hT hr' (aK H x h1) (aK H i h2)) hr
 |extract x i=>
  have h1:=fun t hx=>ht x (by rw[ho];simp[Op.operands]) t hx;unfold aX dG at hr |-;rw[ho]at hr |-;simp only at hr |-;exact cL H hd (m:=Instr.extract (a.eval x) i) (by simp only[execOp,ho]) (fun r hr'=>rU hr' (aK H x h1)) hr
 |panic x=>
  have h1:=fun t hx=>ht x (by rw[ho];simp[Op.operands]) t hx;have hv:=aK H x h1;unfold aX dG at hr |-;rw[ho]at hr |-;simp only at hr |-;cases hq:opnd e x<;>rw[hq]at hr hv<;>(try exact absurd rfl hr);rename_i t v;intro next Q hn hp
  simp only[VR]at hv;obtain⟨y,hav,hy⟩:=hv;unfold Oper.wp;have hrun:(execOp a.eval o).run P w= .halt (.panic (.iface t y)) w:=by simp[execOp,ho,hav,Instr.panic]
  rw[hrun];exact hp (.iface t v) h (.iface t y) w rfl ⟨S,β,H.out,by simp only[VR];exact⟨y,rfl,hy⟩⟩
 |call cc=>
  unfold aX dG at hr |-;rw[ho]at hr |-;simp only at hr |-;exact yo hT hC H hd hU ho ht hr
 | makeMap t r=>
  unfold aX dG at hr |-;rw[ho]at hr |-;simp only at hr |-;cases r with
  |some r=>exact absurd rfl hr
  |none=>
   simp only[Option.isSome_none,F0];exact sf H hd ho
 |lookup t x i ok=>
  have h1:=fun t hx=>ht x (by rw[ho];simp[Op.operands]) t hx;have h2:=fun t hx=>ht i (by rw[ho];simp[Op.operands]) t hx;unfold aX dG at hr |-;rw[ho]at hr |-;simp only at hr |-;exact uL hT H hd ho h1 h2 hr
 |range t x=>
  have h1:=fun t hx=>ht x (by rw[ho];simp[Op.operands]) t hx;unfold aX dG at hr |-;rw[ho]at hr |-;simp only at hr |-;exact xx hT H hd ho h1 hr
 |entry x=>
  have h1:=fun t hx=>ht x (by rw[ho];simp[Op.operands]) t hx;unfold aX dG at hr |-;rw[ho]at hr |-;simp only at hr |-;exact wy H hd ho h1 hr
 |mapUpdate t m k x=>
  have h1:=fun t hx=>ht m (by rw[ho];simp[Op.operands]) t hx;have h2:=fun t hx=>ht k (by rw[ho];simp[Op.operands]) t hx;have h3:=fun t hx=>ht x (by rw[ho];simp[Op.operands]) t hx;unfold aX dG at hr |-;rw[ho]at hr |-;simp only at hr |-;exact xw hT H (.inl ho) h1 h2 h3 hr
 |insert t m k x=>
  have h1:=fun t hx=>ht m (by rw[ho];simp[Op.operands]) t hx;have h2:=fun t hx=>ht k (by rw[ho];simp[Op.operands]) t hx;have h3:=fun t hx=>ht x (by rw[ho];simp[Op.operands]) t hx;unfold aX dG at hr |-;rw[ho]at hr |-;simp only at hr |-;exact xw hT H (.inr ho) h1 h2 h3 hr
 |_=>unfold aX dG at hr;rw[ho]at hr;exact absurd rfl hr
end
end Go.Av
namespace Go.Av
variable [Dr]
structure Agree (cx:Cx) (o:Oper) (e e':Env):Prop where
 ops:∀t∈fm o,e'.get t=e.get t
 loc:((aj cx o).rl||(aj cx o).wl)=true->(∀t,1000<=t->e'.get t=e.get t)/\∀B,aW e'.lb B=aW e.lb B
 al:(aj cx o).dr=true->∀g,aA e'.al g=aA e.al g
 lf:(aj cx o).wl=true->∀s,o.dst=some s->aL e.sl (aT s)=true->aL e'.sl (aT s)=true
section
variable {cx:Cx} {e e':Env} {gid:Nat} {o:Oper}
omit [Dr]in
theorem Agree.get(A:Agree cx o e e'){t:Nat}(h:Operand.tmp t∈o.op.operands.toList):e'.get t=e.get t:=
 A.ops t (HE.2 ⟨.tmp t,h,rfl⟩)
omit [Dr]in
theorem Agree.opnd(A:Agree cx o e e'){x:Operand}(h:x∈o.op.operands.toList):opnd e' x=opnd e x:=by
 cases x with
 |tmp t=>simp only[Av.opnd,Env.av];rw[A.get h]
 |const v=>rfl
 |func f=>rfl
 |global g=>rfl
omit [Dr]in
theorem Agree.opnds(A:Agree cx o e e'){l:List Operand}(h:∀x∈l,x∈o.op.operands.toList):l.map (Av.opnd e')=l.map (Av.opnd e):=
 Hj fun x hx=>A.opnd (h x hx)
omit [Dr]in
theorem Agree.parts(A:Agree cx o e e'){l:List (Nat×Operand)}(h:∀x∈l,x.2∈o.op.operands.toList):l.map (fun p=>(p.1,Av.opnd e' p.2))=l.map (fun p=>(p.1,Av.opnd e p.2)):=
 Hj fun x hx=>by rw[A.opnd (h x hx)]
omit [Dr]in
theorem kb(h:∀t,1000<=t->e'.get t=e.get t){B:Nat}(hB:1000<=B):∀n,iM e' B n=iM e B n
 |0=>rfl
 |n+1=>by
  simp only[iM,Env.av];rw[kb h hB n,h (B+n) (by omega)]
omit [Dr]in
theorem lH(h:∀B,aW e'.lb B=aW e.lb B)(B off n:Nat):gW e' B off n=gW e B off n:=by
 unfold gW;rw[h]
omit [Dr]in
theorem pi(h:∀B,aW e'.lb B=aW e.lb B)(B off p n:Nat):iy e' B off p n=iy e B off p n:=by
 unfold iy;rw[h]
omit [Dr]in
theorem lX{told:Bool}{x:Operand}(A:Agree cx o e e')(h:x∈o.op.operands.toList):e8 told e' gid x=e8 told e gid x:=by
 unfold e8;cases x with
 |tmp t=>simp only;rw[A.get h]
 |_=>rfl
omit [Dr]in
theorem sb{d:Option Tmp}{t:TypeId}{p:Nat}(A:Agree cx o e e')(hp:Operand.tmp p∈o.op.operands.toList)(hf:(aj cx o).rl=true\/eZ (e.get p)=false):cK cx e' d t p=cK cx e d t p:=by
 unfold cK;rw[A.get hp];cases hv:(e.get p).v with
 |val a=>rfl
 | loc B off=>
  replace hf:(aj cx o).rl=true:=hf.elim id fun h=>by simp[eZ,hv]at h
  simp only;cases cx.T t with
  |none=>rfl
  | some ti=>
   obtain⟨h1,h2⟩:=A.loc (by rw[hf];rfl);simp only;rw[lH h2];cases hlb:gW e B off ti.size with
   |false=>rfl
   |true=>
    obtain⟨m,_,_,hB⟩:=qk hlb;rw[kb h1 (by omega),h1 (B+off) (by omega)]
omit [Dr]in
theorem q8{t:TypeId}{p:Nat}{y:Operand}(A:Agree cx o e e')(hp:Operand.tmp p∈o.op.operands.toList)(hy:y∈o.op.operands.toList)(hf:(aj cx o).wl=true):dN cx e' gid t p y=dN cx e gid t p y:=by
 unfold dN;rw[A.get hp,A.opnd hy];obtain⟨h1,h2⟩:=A.loc (by rw[hf];simp);cases hv:(e.get p).v with
 |val a=>rfl
 | loc B off=>
  simp only;cases cx.T t with
  |none=>rfl
  |some ti=>
   simp only;rw[lH h2,pi h2];cases y with
   |tmp s=>simp only;rw[A.get hy]
   |_=>rfl
omit [Dr]in
theorem pS{t:TypeId}{p i:Nat}(A:Agree cx o e e')(hp:Operand.tmp p∈o.op.operands.toList):eN cx e' t p i=eN cx e t p i:=by
 unfold eN;rw[A.get hp]
omit [Dr]in
theorem qm{t:TypeId}{p:Nat}{i:Operand}(A:Agree cx o e e')(hp:Operand.tmp p∈o.op.operands.toList)(hi:i∈o.op.operands.toList):cp cx e' t p i=cp cx e t p i:=by
 unfold cp;rw[A.get hp,A.opnd hi]
omit [Dr]in
theorem pr{s:Nat}{t:TypeId}(A:Agree cx o e e')(hs:o.dst=some s)(hf:bv cx.ann.kinds s .L≠.F->bv cx.ann.kinds s .L≠.H->bv cx.ann.kinds s .L≠.B->(aj cx o).wl=true)(hb:dL cx e gid s t≠.bad):dL cx e' gid s t=dL cx e gid s t:=by
 unfold dL at hb |-;cases ht:cx.T t with
 |none=>rfl
 | some ti=>
  rw[ht]at hb;simp only at hb |-;cases hk:bv cx.ann.kinds s .L<;>rw[hk]at hb hf<;>simp only at hb |-
  all_goals
   have hw:=hf (by simp) (by simp) (by simp);cases hl:aL e.sl (aT s)with
   |false=>exact absurd (by rw[hl];simp) hb
   |true=>rw[A.lf hw s hs hl]
omit [Dr]in
theorem uc{s:Nat}{t:TypeId}{x:Operand}(A:Agree cx o e e')(hs:o.dst=some s)(hx:x∈o.op.operands.toList)(hf:bv cx.ann.kinds s .F≠.F->bv cx.ann.kinds s .F≠.H->bv cx.ann.kinds s .F≠.B->(aj cx o).wl=true)(hb:gC cx e s t x≠.bad):gC cx e' s t x=gC cx e s t x:=by
 unfold gC at hb |-;rw[A.opnd hx];cases hk:bv cx.ann.kinds s .F<;>rw[hk]at hb hf<;>simp only at hb |-
 all_goals
  cases ht:cx.T t with
  |none=>rfl
  |some ti=>
   rw[ht]at hb;simp only at hb |-;have hw:=hf (by simp) (by simp) (by simp);cases hl:aL e.sl (aT s)with
   |false=>exact absurd (by rw[hl];simp) hb
   |true=>rw[A.lf hw s hs hl]
omit [Dr]in
theorem rC{c:Call}(A:Agree cx o e e')(ho:o.op= .call c):dM cx e' gid o c=dM cx e gid o c:=by
 have hargs:∀x∈c.args.toList,x∈o.op.operands.toList:=fun x hx=>by
  rw[ho];simp[Op.operands,Call.operands];exact .inr (by simpa using hx)
 have hT:∀b:Bool,c.args.toList.map (kh b e')=c.args.toList.map (kh b e):=fun b=>by
  refine Hj fun x hx=>?_;unfold kh iY;rw[A.opnd (hargs x hx)]
 unfold dM;rw[A.opnds hargs,hT];cases hc:c.callee with
 |invoke r m=>rfl
 |value f=>
  have hf:f∈o.op.operands.toList:=by rw[ho];simp[Op.operands,Call.operands,hc]
  cases f with
  |func g=>rfl
  |_=>simp only;rw[A.opnd hf]
 | builtin b=>
  cases b<;>simp only
  case clear=>
   split
   ·rename_i t ts x xs hts hxs;rw[A.opnd (hargs x (by rw[hxs];simp))]
   ·rfl
  case len=>
   split
   ·rename_i t ts x xs hts hxs;rw[A.opnd (hargs x (by rw[hxs];simp))]
   ·rfl
  case append=>
   split
   ·rename_i t u x y hts hxs;have hx:=hargs x (by rw[hxs];simp);rw[A.opnd hx,A.opnd (hargs y (by rw[hxs];simp))];cases eF cx.T u with
    |false=>rfl
    | true=>
     simp only[GA,F0];cases hha:bd cx.ann.ha o.dst with
     | true=>
      have hns:eM e' x=eM e x:=by
       cases x with
       | tmp s=>
        have hdr:(aj cx o).dr=true:=by
         unfold aj;rw[ho];simp only[hc,hha,FW]
        unfold eM;simp only;rw[A.get hx];cases (e.get s).g with
        |none=>rfl
        |some g=>simp only;rw[A.al hdr]
       |_=>rfl
      rw[hns];rfl
     | false=>
      simp only[F0];cases hn:aN x with
      |true=>rfl
      | false=>
       simp only[F0];cases x with
       | tmp s=>
        simp only;rw[A.get hx];have hdr:(aj cx o).dr=true:=by
         unfold aj;rw[ho];simp only[hc,hha,F0,hxs,hn];rfl
        cases (e.get s).g with
        |none=>rfl
        |some g=>simp only;rw[A.al hdr]
       |_=>rfl
   ·rfl
omit [Dr]in
theorem tr{k:Kind}{f g b h:Foot}(hh:h.wl=true)(h1:k≠.F)(h2:k≠.H)(h3:k≠.B):(match k with|.F=>f|.H=>g|.B=>b|_=>h).wl=true:=by
 cases k<;>first|exact absurd rfl h1|exact absurd rfl h2|exact absurd rfl h3|exact hh
omit [Dr]in
theorem uR(A:Agree cx o e e')(hb:dG cx e gid o≠.bad):dG cx e' gid o=dG cx e gid o:=by
 have hm:∀ {x:Operand},x∈o.op.operands.toList->opnd e' x=opnd e x:=fun h=>A.opnd h;unfold dG at hb |-;cases ho:o.op<;>rw[ho]at hb hm<;>simp only[Op.operands]at hm hb |-
 case move x=>exact lX A (by rw[ho];simp[Op.operands])
 case assign x=>exact lX A (by rw[ho];simp[Op.operands])
 case pick k x y=>rw[hm (x:=k) (by simp),hm (x:=x) (by simp),hm (x:=y) (by simp)]
 case box t x=>
  cases hd:o.dst with
  |none=>rfl
  |some s=>
   rw[hd]at hb;exact uc A hd (by rw[ho];simp[Op.operands]) (fun h1 h2 h3=>by unfold aj;rw[ho,hd];exact tr rfl h1 h2 h3) hb
 case alloc t=>
  cases hd:o.dst with
  |none=>rfl
  |some s=>
   rw[hd]at hb;exact pr A hd (fun h1 h2 h3=>by unfold aj;rw[ho,hd];exact tr rfl h1 h2 h3) hb
 case load t x=>
  cases x with
  | tmp p=>
   simp only;rw[A.get (t:=p) (by rw[ho];simp[Op.operands])];cases hnl:bd cx.ann.nl o.dst&&eZ (e.get p)with
   |true=>rfl
   | false=>
    rw[sb A (by rw[ho];simp[Op.operands]) (by
     rw[Ho]at hnl;rcases hnl with h|h
     ·exact .inl (by unfold aj;rw[ho];simp[h])
     ·exact .inr h)]
  |_=>rfl
 case store t x y=>
  cases x with
  | tmp p=>
   cases hd:o.dst with
   |some d=>rfl
   |none=>
    simp only;rw[A.get (t:=p) (by rw[ho];simp[Op.operands]),q8 A (by rw[ho];simp[Op.operands]) (by rw[ho];simp[Op.operands]) (by unfold aj;rw[ho])]
  |_=>rfl
 case build t ps=>rw[A.parts (l:=ps.toList) (fun p hp=>by rw[ho];simp[Op.operands];exact⟨p.1,by simpa using hp⟩)]
 case buildSlice t n ps=>rw[A.parts (l:=ps.toList) (fun p hp=>by rw[ho];simp[Op.operands];exact⟨p.1,by simpa using hp⟩)]
 case nilCheck x=>
  cases x with
  |tmp p=>simp only;rw[A.get (by rw[ho];simp[Op.operands])]
  |_=>rfl
 case binOp op t x y u=>
  have hn:∀ {x:Operand},x∈o.op.operands.toList->iY e' x=iY e x:=fun h=>by unfold iY;rw[A.opnd h]
  rw[hn (x:=x) (by rw[ho];simp[Op.operands]),hn (x:=y) (by rw[ho];simp[Op.operands])]
 case unOp op t x=>rw[hm (x:=x) (by simp)]
 case convert s t x=>rw[hm (x:=x) (by simp)]
 case makeInterface t x=>rw[hm (x:=x) (by simp)]
 case makeFunc f x y=>
  rw[A.opnds (l:=x.toList) (fun z hz=>by rw[ho];simp[Op.operands];exact .inl (by simpa using hz)),A.opnds (l:=y.toList) (fun z hz=>by rw[ho];simp[Op.operands];exact .inr (by simpa using hz))]
 case makeSlice t x y=>rw[hm (x:=x) (by simp),hm (x:=y) (by simp)]
 case slice t x lo hi mx=>
  have h1:∀z:Option Operand,(∀y,z=some y->y∈o.op.operands.toList)->z.map (opnd e')=z.map (opnd e):=by
   intro z hz;cases z with
   |none=>rfl
   |some y=>simp only[Ha];rw[A.opnd (hz y rfl)]
  have hcut:iX cx e' gid t x lo hi mx=iX cx e gid t x lo hi mx\/bd cx.ann.so o.dst=false:=by
   cases hso:bd cx.ann.so o.dst with
   |false=>exact .inr rfl
   | true=>
    refine .inl ?_;unfold iX;cases x with
    |tmp s=>
     have hdr:(aj cx o).dr=true:=by unfold aj;rw[ho];simp only[hso,FW]
     simp only[A.get (t:=s) (by rw[ho];simp[Op.operands]),A.al hdr,hm (x:=.tmp s) (by simp),h1 lo (fun y hy=>by rw[ho];simp[Op.operands,hy])]
    |_=>rfl
  rcases hcut with hcut|hcut
  ·rw[hcut,hm (x:=x) (by simp),h1 lo (fun y hy=>by rw[ho];simp[Op.operands,hy]),h1 hi (fun y hy=>by rw[ho];simp[Op.operands,hy]),h1 mx (fun y hy=>by rw[ho];simp[Op.operands,hy])]
  rw[hcut];simp only[F0];rw[hm (x:=x) (by simp),h1 lo (fun y hy=>by rw[ho];simp[Op.operands,hy]),h1 hi (fun y hy=>by rw[ho];simp[Op.operands,hy]),h1 mx (fun y hy=>by rw[ho];simp[Op.operands,hy])]
 case fieldAddr t x i=>
  cases x with
  |tmp p=>exact pS A (by rw[ho];simp[Op.operands])
  |_=>rfl
 case indexAddr t x i=>
  cases x with
  |tmp p=>exact qm A (by rw[ho];simp[Op.operands]) (by rw[ho];simp[Op.operands])
  |global g=>simp only;rw[hm (x:=i) (by simp)];rfl
  |_=>rfl
 case field t x f=>rw[hm (x:=x) (by simp)]
 case index t x i=>rw[hm (x:=x) (by simp),hm (x:=i) (by simp)]
 case extract x i=>rw[hm (x:=x) (by simp)]
 case lookup t x i ok=>rw[hm (x:=x) (by simp),hm (x:=i) (by simp)]
 case mapUpdate t m k x=>unfold gD;rw[hm (x:=m) (by simp),hm (x:=k) (by simp),hm (x:=x) (by simp)]
 case insert t m k x=>unfold gD;rw[hm (x:=m) (by simp),hm (x:=k) (by simp),hm (x:=x) (by simp)]
 case panic x=>rw[hm (x:=x) (by simp)]
 case range t x=>rw[hm (x:=x) (by simp)]
 case entry x=>rw[hm (x:=x) (by simp)]
 case call c=>exact rC A ho
end
end Go.Av
namespace Go.Av
variable [Dr]
def cD:Act1->M Upd
 |.bad=>M.fail
 |.stat u=>M.pure u
 |.dyn m sh=>ae m fun v=>M.pure (sh v)
 |.thr v=>dy v
def fY(c:AV)(want:Bool)(m:M Upd):M Upd:=match c with
 |.bool b=>bif b== want then m else M.pure (.ofV (.tup []))
 |.tup []=>M.pure (.ofV (.tup []))
 |_=>M.fail
def dp(cx:Cx)(base:Nat)(ops:Array Oper)(i:Nat)(e:Env):M Upd:=match ops[i]? with
 |none=>M.fail
 | some o=>match o.guard with
  |none=>cD (dG cx e ((base+i)*1000) o)
  |some (j,want)=>match cf ops j with
   |none=>M.fail
   |some t=>bif df cx o then fY (e.av t) want (cD (eI (dG cx e ((base+i)*1000) o)))else M.fail
def stepG(cx:Cx)(base:Nat)(ops:Array Oper)(i:Nat)(e:Env):M Env:=ae (dp cx base ops i e) fun u=>M.pure (e.upd (cf ops i) u)
def aI(cx:Cx)(base:Nat)(ops:Array Oper):List Nat->Env->M Env
 |[],e=>M.pure e
 |i:: is,e=>ae (stepG cx base ops i e) (aI cx base ops is)
omit [Dr]in
theorem gQ(e:Env)(d:Option Tmp)(A:Act1):aG e d A=ae (cD A) fun u=>M.pure (e.upd d u):=by
 cases A with
 |bad=>rfl
 |stat u=>rfl
 |dyn m sh=>simp only[aG,cD,cR,aw]
 |thr v=>rfl
omit [Dr]in
theorem gJ{p:Upd->Prop}{A:Act1}(h:bB p A){x y:Hp}{u:Upd}(hr:cD A x= .ok u y):p u:=by
 cases A with
 |bad=>cases hr
 |stat v=>cases hr;exact h
 |dyn m sh=>
  simp only[cD,ae,M.pure]at hr;cases hm:m x<;>rw[hm]at hr<;>simp at hr;rw[<- hr.1];exact h _
 |thr v=>cases hr
omit [Dr]in
theorem jO(A:Act1)(x:Hp):cD (eI A) x=(match cD A x with|.ok u y=>.ok (ec u) y|.pan v y=>.pan v y|.fail=>.fail):=by
 cases A with
 |bad=>rfl
 |stat v=>rfl
 |dyn m sh=>
  simp only[cD,eI,ae,M.pure];cases m x<;>rfl
 |thr v=>rfl
section
variable {P:Program} {cx:Cx} {c:Entry} {N:Nat} {e:Env} {h:Hp} {a:Act} {w:World} {ops:Array Oper} {base:Nat}
def UD(base:Nat)(D:List Nat):Nat->Prop:=fun g=>g<base*1000\/∃i∈D,(base+i)*1000<=g/\g<(base+i)*1000+1000
omit [Dr]in
theorem po{D:List Nat}{i:Nat}(hi:i ∉ D):∀g,(base+i)*1000<=g->g<(base+i)*1000+1000->¬UD base D g:=by
 rintro g h1 h2 (h3|⟨j,hj,h4,h5⟩)
 ·have:base*1000<=(base+i)*1000:=Gc _ (by omega);omega
 ·have:i=j:=by omega
  exact hi (this▸hj)
omit [Dr]in
theorem om{D:List Nat}{i:Nat}:∀g,UG (UD base D) ((base+i)*1000) g->UD base (i:: D) g:=by
 rintro g ((h1|⟨j,hj,h2⟩)|h1)
 ·exact .inl h1
 ·exact .inr ⟨j,by simp[hj],h2⟩
 ·exact .inr ⟨i,by simp,h1⟩
structure OpsOk (N:Nat) (cx:Cx) (ops:Array Oper):Prop where
 dst:∀(i:Nat)(o:Oper),ops[i]? = some o->∀t,o.dst=some t->t<N
 src:∀(i:Nat)(o:Oper),ops[i]? = some o->∀x∈o.op.operands.toList,∀t,x= .tmp t->t<1000
 kin:∀p,uF (bv cx.ann.kinds p .L)=true->p<N
omit [Dr]in
theorem uz{x:Array Value}{t:Nat}{b:Bool}(h:x.getD t undef= .bool b):x[t]? = some (.bool b):=by
 rw[Gn]at h;cases hx:x[t]? with
 |none=>rw[hx]at h;cases h
 |some v=>rw[hx]at h;simp at h;rw[h]
theorem vf{U:Nat->Prop}{gid:Nat}{f:Foot}{ss:Option Nat}{d:Option Tmp}{u:Upd}(hs:Shape e gid f ss u)(hw:f.wl=false)(hdr:f.dr=false)(hU:∀g z,aA e.al g=some z->g≠gid){a':Act}{w':World}{h':Hp}(H:dn c N U (e.upd d u) h' a' w'):dn c N U (e.upd d (ec u)) h' a' w':=by
 obtain⟨S,β,γ,lam,ω,F⟩:=H;have h1:=hs.ls hw;have h2:=hs.lb hw;have h3:=hs.unlb hw;have h4:=hs.nodr hdr;have hget:∀t,(e.upd d (ec u)).get t=if d=some t then⟨u.ent.v,none⟩else e.get t:=fun t=>by rw[bJ];rfl
 have hget':∀t,(e.upd d u).get t=if d=some t then u.ent else e.get t:=fun t=>by rw[bJ,h1];rfl
 refine⟨S,β,γ,lam,ω,F.weak (fun t=>.inl ?_) (fun t g hg=>?_) (fun g z hz=>?_) (fun B n hB=>?_)⟩
 ·rw[hget,hget'];split<;>rfl
 ·rw[hget]at hg;rw[hget'];split at hg
  ·cases hg
  ·rename_i hd;rw[if_neg hd];exact hg
 ·have hz':aA e.al g=some z:=hz;show aA (u.add++cS e.al u.drop) g=some z;rw[h4];have hne:=hU g z hz';have:∀l:List (Nat×Option Nat),(∀x∈l,x.1=gid)->aA (l++cS e.al none) g=some z:=by
   intro l
   induction l with
   |nil=>intro _;exact hz'
   | cons x l ih=>
    intro hl;obtain⟨k,y⟩:=x;rw[GH,bj,if_neg]
    ·exact ih fun x hx=>hl x (by simp[hx])
    ·have:=hl (k,y) (by simp)
     simp at this;omega
  exact this u.add (hs.add hw)
 ·show aW (ib (cH e.lb u.unlb) u.lb) B=some n;rw[h2,h3];exact hB
theorem mn(hT:TOK P cx.T)(hC:bC P cx.own cx.call)(hO:OpsOk N cx ops){D:List Nat}{i:Nat}(hi:i ∉ D)(H:dn c N (UD base D) e h a w)(hr:stepG cx base ops i e h≠.fail){K:Act->World->Prop}{Q:Exit->Act->World->Prop}(hn:∀e' h' a' w',stepG cx base ops i e h= .ok e' h'->dn c N (UD base (i:: D)) e' h' a' w'->a'.defers=a.defers->K a' w')(hp:∀pv h' v w',stepG cx base ops i e h= .pan pv h'->ia c pv h' v w'->Q (.panic [{ v,recovered:=false }]) a w'):wpOp P ops Q i K a w:=by
 obtain⟨S,β,γ,lam,ω,F⟩:=H;unfold stepG dp at hr hn hp;simp only[wpOp];cases ho:ops[i]? with
 |none=>rw[ho]at hr;exact absurd rfl hr
 | some o=>
  have hdst:cf ops i=o.dst:=by simp[cf,ho]
  rw[hdst,ho]at hr hn hp;simp only at hr hn hp |-;have hop:=fun(hr:aX cx e ((base+i)*1000) o h≠.fail)=>xp hT hC F (hO.dst i o ho) (po hi) (hO.src i o ho) hO.kin hr;cases hg:o.guard with
  |none=>
   rw[hg]at hr hn hp;simp only at hr hn hp;rw[<- gQ]at hr hn hp;have hw:Region.wanted o (yielded ops a.tmps)=true:=by unfold Region.wanted;rw[hg]
   rw[FY hw];exact .inl (hop hr K Q (fun e' h' a' w' h1 h2 h3=>hn e' h' a' w' h1 (h2.wider om) h3) hp)
  | some g=>
   obtain⟨j,want⟩:=g;rw[hg]at hr hn hp;simp only at hr hn hp;have hwant:Region.wanted o (yielded ops a.tmps)=(yielded ops a.tmps j== some want):=by unfold Region.wanted;rw[hg]
   cases hdj:cf ops j with
   |none=>rw[hdj]at hr;exact absurd rfl hr
   | some t=>
    rw[hdj]at hr hn hp;simp only at hr hn hp;cases hpl:df cx o with
    |false=>rw[hpl]at hr;exact absurd rfl hr
    |true=>
    rw[hpl]at hr hn hp;simp only[FW]at hr hn hp;have hdj':(ops[j]?).bind (·.dst)=some t:=hdj;have htN:t<N:=by
     cases hoj:ops[j]? with
     |none=>rw[hoj]at hdj';simp at hdj'
     |some oj=>rw[hoj]at hdj';exact hO.dst j oj hoj t hdj'
    have hs:=F.slots t (by have:=F.tsz.2;omega);have hav:VR S β (e.av t) (a.tmps.getD t undef):=by
     simp only[Env.av,Ent.av];cases hv:(e.get t).v with
     |val av=>rw[hv]at hs;exact hs
     |loc B off=>simp[VR]
    have hskip:(∀e' h' a' w',(R.ok (e.upd o.dst (.ofV (.tup []))) h:R Env)= .ok e' h'->dn c N (UD base (i:: D)) e' h' a' w'->a'.defers=a.defers->K a' w')->K (a.put o.dst undef) w:=by
     intro hn;exact hn _ _ _ _ rfl ⟨S,β,γ,lam,ω,(F.setV (v:=undef) (hO.dst i o ho) (by simp only[VR];exact⟨[],rfl,by simp[aP]⟩)).wider (fun g hg=>om g (.inl hg))⟩ (put_defers a o.dst undef)
    cases hq:e.av t with
    | bool b=>
     rw[hq]at hr hn hp hav;simp only[VR]at hav;have hy:yielded ops a.tmps j=some b:=by
      unfold yielded;rw[hdj'];simp only[Ht,uz hav]
     rw[hwant,hy];cases hbw:(b== want)with
     | true=>
      simp only[fY,hbw,FW]at hr hn hp;have:b=want:=by simpa using hbw
      subst this;rw[FY (by simp)];simp only[df,FV,GI]at hpl;simp only[ae,jO,M.pure]at hr hn hp;have hact:cD (dG cx e ((base+i)*1000) o) h≠.fail:=by
       intro hf;rw[hf]at hr;exact hr rfl
      refine .inl (hop ?_ K Q (fun e' h' a' w' h1 h2 h3=>?_) (fun pv h' v w' h1 h2=>?_))
      ·unfold aX;rw[gQ];simp only[ae,M.pure];cases hx:cD (dG cx e ((base+i)*1000) o) h with
       |fail=>exact absurd hx hact
       |_=>simp
      ·unfold aX at h1;rw[gQ]at h1;simp only[ae,M.pure]at h1;cases hx:cD (dG cx e ((base+i)*1000) o) h with
       |fail=>exact absurd hx hact
       |pan pv hh=>rw[hx]at h1;cases h1
       |ok u hh=>
        rw[hx]at h1 hn;simp only[R.ok.injEq]at h1;obtain⟨rfl,rfl⟩:=h1;have hsh:=gJ (gO cx e ((base+i)*1000) o) hx;exact hn _ _ a' w' rfl ((vf hsh hpl.1 hpl.2 (fun g z hz hgg=>po hi g (by omega) (by omega) (F.used.2 g z hz)) h2).wider om) h3
      ·unfold aX at h1;rw[gQ]at h1;simp only[ae,M.pure]at h1;cases hx:cD (dG cx e ((base+i)*1000) o) h with
       |fail=>exact absurd hx hact
       |ok u hh=>rw[hx]at h1;cases h1
       |pan pv2 hh=>
        rw[hx]at h1 hp;simp only[R.pan.injEq]at h1;obtain⟨rfl,rfl⟩:=h1;exact hp _ _ v w' rfl h2
     |false=>
      simp only[fY,hbw,F0,aw]at hn;have:(some b== some want)=false:=by simpa using hbw
      rw[if_neg (by rw[this];simp)];exact hskip hn
    | tup vs=>
     rw[hq]at hr hn hp hav;cases vs with
     | nil=>
      simp only[fY,aw]at hn;simp only[VR,aP]at hav;obtain⟨vs,hav,rfl⟩:=hav;have hy:yielded ops a.tmps j=none:=by
       unfold yielded;rw[hdj'];simp only[Ht];rw[Gn]at hav;cases hx:a.tmps[t]? with
       |none=>rfl
       |some v=>rw[hx]at hav;simp at hav;rw[hav]
      rw[hwant,hy,if_neg (by simp)];exact hskip hn
     |cons v vs=>exact absurd rfl hr
    |_=>rw[hq]at hr;exact absurd rfl hr
def UR(base n:Nat):Nat->Prop:=fun g=>g<(base+n)*1000
omit [Dr]in
theorem zj{D:List Nat}{n:Nat}(h:∀i∈D,i<n):∀g,UD base D g->UR base n g:=by
 rintro g (h1|⟨i,hi,h2,h3⟩)
 ·exact Gu h1 (Gc _ (by omega))
 ·have h4:(base+i)*1000+1000<=(base+n)*1000:=by
   have:=h i hi
   rw[show (base+i)*1000+1000=(base+i+1)*1000 by rw[Gy _ 1]];exact Gc _ (by omega)
  exact Gu h3 h4
theorem nV(hT:TOK P cx.T)(hC:bC P cx.own cx.call)(hO:OpsOk N cx ops){Q:Exit->Act->World->Prop}:∀(l:List Nat)(D:List Nat)(e:Env)(h:Hp)(a:Act)(w:World),l.Nodup->(∀i∈l,i ∉ D)->
  dn c N (UD base D) e h a w->aI cx base ops l e h≠.fail->
  (∀e' h' a' w',aI cx base ops l e h= .ok e' h'->dn c N (UD base (l.reverse++D)) e' h' a' w'->a'.defers=a.defers->Q .normal a' w')->
  (∀pv h' v w' a',aI cx base ops l e h= .pan pv h'->ia c pv h' v w'->a'.defers=a.defers->Q (.panic [{ v,recovered:=false }]) a' w')->wpOps P ops Q l a w
 |[],D,e,h,a,w,_,_,H,_,hn,_=>by
  simp only[wpOps];exact hn e h a w rfl (by simpa using H) rfl
 | i:: l,D,e,h,a,w,hnd,hdis,H,hr,hn,hp=>by
  simp only[aI,ae]at hr hn hp;have hnd':=Ir.1 hnd;rw[wpOps_cons];refine mn hT hC hO (hdis i (by simp)) H (fun hf=>by rw[hf]at hr;exact hr rfl) (fun e' h' a' w' hst hs hdf=>?_) (fun pv h' v w' hst hps=>?_)
  ·rw[hst]at hr hn hp;simp only at hr hn hp;refine nV hT hC hO l (i:: D) e' h' a' w' hnd'.2 (fun j hj=>?_) hs hr (fun e2 h2 a2 w2 h1 h3 h4=>hn e2 h2 a2 w2 h1 (by simpa using h3) (h4.trans hdf)) (fun pv h2 v w2 a2 h1 h3 h4=>hp pv h2 v w2 a2 h1 h3 (h4.trans hdf));simp only[Gp,not_or];exact⟨fun hji=>hnd'.1 (hji▸hj),hdis j (by simp[hj])⟩
  ·rw[hst]at hp;exact hp pv h' v w' a rfl hps rfl
end
end Go.Av
namespace Go.Av
variable [Dr]
def aR{α:Type}(m:M α):Prop:=∃o,m=ah o
def cw{α:Type}(m:M α):Prop:=∀h,m h= .fail\/∃v,m h= .ok v h
def cO{α:Type}(m:M α):Prop:=∀h v h',m h≠.pan v h'
omit [Dr]in
theorem aR.read{α:Type}{m:M α}(h:aR m):cw m:=by
 obtain⟨o,rfl⟩:=h;intro h;cases o with
 |none=>exact .inl rfl
 |some v=>exact .inr ⟨v,rfl⟩
omit [Dr]in
theorem cw.stay{α:Type}{m:M α}(g:cw m):cO m:=by
 intro h v h' hh;rcases g h with g|⟨x,g⟩<;>rw[g]at hh<;>cases hh
omit [Dr]in
theorem aR.bnd{α β:Type}{m:M α}(h:aR m)(f:α->β):aR (ae m fun v=>M.pure (f v)):=by
 obtain⟨o,rfl⟩:=h;cases o with
 |none=>exact⟨none,rfl⟩
 |some v=>exact⟨some (f v),rfl⟩
omit [Dr]in
theorem cw.bnd{α β:Type}{m:M α}(g:cw m)(f:α->β):cw (ae m fun v=>M.pure (f v)):=by
 intro h;simp only[Av.ae,M.pure];rcases g h with g|⟨x,g⟩<;>rw[g]
 ·exact .inl rfl
 ·exact .inr ⟨_,rfl⟩
omit [Dr]in
theorem cO.bnd{α β:Type}{m:M α}(g:cO m)(f:α->β):cO (ae m fun v=>M.pure (f v)):=by
 intro h v h' hh;simp only[Av.ae,M.pure]at hh;cases hm:m h<;>rw[hm]at hh<;>simp at hh;exact g _ _ _ hm
omit [Dr]in
theorem aR.lft{α:Type}(o:Option α):aR (ah o):=⟨o,rfl⟩
omit [Dr]in
theorem aR.pure{α:Type}(a:α):aR (M.pure a):=⟨some a,rfl⟩
omit [Dr]in
theorem aR.fail{α:Type}:aR (M.fail:M α):=⟨none,rfl⟩
def gU{α:Type}(m:M α):Prop:=∀h t v,m h= .ok v h->m (h++t)= .ok v (h++t)
def rr{α:Type}(m:M α):Prop:=∀h v h',m h= .ok v h'->∃t,h'=h++t
omit [Dr]in
theorem aR.app{α:Type}{m:M α}(h:aR m):gU m:=by
 obtain⟨o,rfl⟩:=h;intro h t v hh;cases o with
 |none=>cases hh
 |some x=>cases hh;rfl
omit [Dr]in
theorem aR.nw{α:Type}{m:M α}(h:aR m):rr m:=by
 obtain⟨o,rfl⟩:=h;intro h v h' hh;cases o with
 |none=>cases hh
 |some x=>cases hh;exact⟨[],by simp⟩
omit [Dr]in
theorem gU.bnd{α β:Type}{m:M α}(g:gU m/\cw m)(f:α->β):gU (ae m fun v=>M.pure (f v))/\cw (ae m fun v=>M.pure (f v)):=by
 refine⟨fun h t v hh=>?_,g.2.bnd f⟩;simp only[Av.ae,M.pure]at hh |-;rcases g.2 h with k|⟨x,k⟩
 ·rw[k]at hh;cases hh
 ·rw[k]at hh;cases hh;rw[g.1 h t x k]
omit [Dr]in
theorem rr.bnd{α β:Type}{m:M α}(g:rr m)(f:α->β):rr (ae m fun v=>M.pure (f v)):=by
 intro h v h' hh;simp only[Av.ae,M.pure]at hh;cases hm:m h<;>rw[hm]at hh<;>simp at hh;obtain⟨t,ht⟩:=g _ _ _ hm;exact⟨t,by rw[<- hh.2,ht]⟩
def bc(p:∀ {α:Type},M α->Prop):Act1->Prop
 |.dyn m _=>p m
 |.thr _=>False
 |_=>True
structure IsoPure (cx:Cx):Prop where
 iso:∀f args,cx.iso f=true->aR (cx.call f args)
 nw:∀f args,cx.nw f=true->rr (cx.call f args)
section
variable {cx:Cx} {e:Env} {gid:Nat} {o:Oper}
omit [Dr]in
theorem bc.cond{p:∀ {α:Type},M α->Prop}{b:Bool}{x y:Act1}(h1:b=true->bc p x)(h2:b=false->bc p y):bc p (bif b then x else y):=by
 cases b with
 |true=>exact h1 rfl
 |false=>exact h2 rfl
omit [Dr]in
theorem bc.lft(o:Option AV)(sh:AV->Upd):bc aR (.dyn (ah o) sh):=aR.lft o
omit [Dr]in
theorem lQ(T:TT)(t:TypeId)(x:AV):cw (eK T t x):=by
 have key:∀x,cw (fun h:Hp=>(match ak T t x with|some v=>R.ok v h|none=>.fail)):=by
  intro x h;cases hq:ak T t x with
  |none=>exact .inl rfl
  |some v=>exact .inr ⟨v,rfl⟩
 cases x with
 | hp l off=>
  intro h;simp only[eK];cases T t with
  |none=>exact .inl rfl
  | some ti=>
   cases h[l]? with
   |none=>exact .inl rfl
   | some cs=>
    simp only;cases ti.agg with
    |true=>
     simp only[FW];split
     ·exact .inr ⟨_,rfl⟩
     ·exact .inl rfl
    |false=>
     simp only[F0];cases cs[off]? with
     |none=>exact .inl rfl
     |some v=>exact .inr ⟨v,rfl⟩
 |_=>exact key _
omit [Dr]in
theorem q7(T:TT)(t:TypeId)(x y:AV):cO (fo T t x y):=by
 intro h v h' hh;unfold fo at hh;split at hh
 ·split at hh
  ·revert hh;generalize (_&&_:Bool)=b1;cases b1<;>simp
  ·cases hh
 ·cases hh
omit [Dr]in
theorem pH(T:TT)(t:TypeId)(x:AV):cO (oz T t x):=fun h v h' hh=>by cases hh
omit [Dr]in
theorem nJ(cs:List AV):cO (newH cs):=by
 intro h v h' hh;unfold newH at hh;revert hh;generalize (_||_:Bool)=b1;cases b1<;>simp
omit [Dr]in
theorem uN(t:Nat)(cs:List AV):cO (y1 t cs):=fun h v h' hh=>by cases hh
omit [Dr]in
theorem oT:cO oS:=by
 intro h v h' hh;cases hh
omit [Dr]in
theorem sd(T:TT)(t:TypeId)(x k:AV)(ok:Bool):cw (kg T t x k ok):=by
 intro h;unfold kg;cases jS h x with
 |none=>exact .inl rfl
 |some es=>
  simp only;cases nG T t es k ok with
  |none=>exact .inl rfl
  |some v=>exact .inr ⟨v,rfl⟩
omit [Dr]in
theorem un{h s:Hp}{x:AV}{es:List AV}(hh:jS h x=some es):jS (h++s) x=some es:=by
 unfold jS at hh |-;cases x with
 | mp l=>
  simp only at hh |-;cases hl:h[l]? with
  |none=>rw[hl]at hh;cases hh
  | some cs=>
   rw[hl]at hh;have hl':(h++s)[l]? = some cs:=by
    rw[Hh,FY (Hi.1 hl).1,hl]
   rw[hl'];exact hh
 |_=>exact hh
omit [Dr]in
theorem uK(T:TT)(t:TypeId)(x k:AV)(ok:Bool):gU (kg T t x k ok):=by
 intro h s v hh;unfold kg at hh |-;cases hs:jS h x with
 |none=>rw[hs]at hh;cases hh
 |some es=>
  rw[hs]at hh;rw[un hs];simp only at hh |-;cases ha:nG T t es k ok with
  |none=>rw[ha]at hh;cases hh
  |some u=>rw[ha]at hh;cases hh;rfl
omit [Dr]in
theorem qK(T:TT)(t:TypeId)(x:AV):cO (oX T t x):=fun h v h' hh=>by cases hh
omit [Dr]in
theorem pN(x:AV):cw (lq x):=fun h=>.inl rfl
omit [Dr]in
theorem rP(x:AV):gU (lq x):=fun h s v hh=>by cases hh
omit [Dr]in
theorem nO(T:TT)(t:TypeId)(x k y:AV):cO (xu T t x k y):=by
 intro h v h' hh;unfold xu at hh;split at hh
 ·cases hh
 ·revert hh;cases uj T 20 _ k with
  |false=>intro hh;cases hh
  | true=>
   simp only[FW];intro hh;split at hh
   ·split at hh
    ·split at hh
     ·cases hh
     ·cases hh
    ·cases hh
   ·cases hh
omit [Dr]in
theorem t7(T:TT)(t:TypeId)(z:Bool)(x y:AV):cO (appH T t z x y):=by
 intro h v h' hh;unfold appH at hh;have hc:∀ {b:Bool} {r s:R AV},(∀v h',r≠.pan v h')->(∀v h',s≠.pan v h')->(bif b then r else s)≠.pan v h':=by
  intro b r s h1 h2;cases b
  ·exact h2 _ _
  ·exact h1 _ _
 split at hh
 ·cases hh
 ·split at hh
  ·split at hh
   ·cases hh
   ·split at hh
    ·cases hh
    ·refine hc (fun v h' hh=>?_) (fun v h' hh=>by cases hh) hh;split at hh
     ·revert hh;generalize List.isEmpty _=b1;generalize decide (_<=140737488355328)=b2;cases b1<;>cases b2<;>simp
     ·revert hh;generalize List.isEmpty _=b1;generalize decide (_<=140737488355328)=b2;cases z<;>cases b1<;>cases b2<;>simp
     ·split at hh
      ·cases hh
      ·revert hh;generalize (_&&_:Bool)=b1;generalize List.isEmpty _=b2;cases b1<;>cases b2<;>simp
     ·cases hh
  ·cases hh
omit [Dr]in
theorem t6(T:TT)(t:TypeId)(x y:AV):cO (yg T t x y):=fun h v h' hh=>by cases hh
omit [Dr]in
theorem pB(T:TT)(t n:Nat)(ps:List (Nat×AV)):cO (ov T t n ps):=fun h v h' hh=>by cases hh
omit [Dr]in
theorem se(T:TT)(t:Nat)(x y:AV):cO (tz T t x y):=fun h v h' hh=>by cases hh
omit [Dr]in
theorem nH(told:Bool)(x:Operand):bc aR (e8 told e gid x):=by
 unfold e8;split
 ·trivial
 ·exact bc.cond (fun _=>bc.cond (fun _=>trivial) (fun _=>trivial)) (fun _=>trivial)
omit [Dr]in
theorem sc(d:Option Tmp)(t:TypeId)(p:Nat):bc cw (cK cx e d t p)/\(bd cx.ann.hl d=false->bc aR (cK cx e d t p)):=by
 unfold cK;split
 ·split
  ·exact⟨trivial,fun _=>trivial⟩
  ·constructor
   ·exact bc.cond (fun _=>bc.cond (fun _=>trivial) (fun _=>bc.cond (fun _=>trivial) (fun _=>trivial))) (fun _=>trivial)
   ·exact fun _=>bc.cond (fun _=>bc.cond (fun _=>trivial) (fun _=>bc.cond (fun _=>trivial) (fun _=>trivial))) (fun _=>trivial)
 ·cases hm:bd cx.ann.hl d with
  |true=>exact⟨lQ _ _ _,fun h=>by cases h⟩
  |false=>exact⟨(aR.lft _).read,fun _=>aR.lft _⟩
omit [Dr]in
theorem uJ(T:TT)(t:TypeId)(x:AV):gU (eK T t x):=by
 intro h s v hh;have hk:∀y,(match ak T t y with|some v=>R.ok v h|none=>.fail)=R.ok v h->(match ak T t y with|some v=>R.ok v (h++s)|none=>.fail)=R.ok v (h++s):=by
  intro y hy;cases hq:ak T t y with
  |none=>rw[hq]at hy;cases hy
  |some u=>rw[hq]at hy;cases hy;rfl
 unfold eK at hh |-;cases x with
 | hp l off=>
  simp only at hh |-;cases hT:T t with
  |none=>rw[hT]at hh;cases hh
  | some ti=>
   rw[hT]at hh;cases hl:h[l]? with
   |none=>rw[hl]at hh;cases hh
   | some cs=>
    have hl':(h++s)[l]? = some cs:=by
     rw[Hh]
     have:=(Hi.1 hl).1
     rw[FY this,hl]
    rw[hl]at hh;rw[hl'];simp only at hh |-;cases hag:ti.agg with
    |true=>
     rw[hag]at hh;simp only[FW]at hh |-;split at hh
     ·rename_i hc;cases hh;rw[FY hc]
     ·cases hh
    |false=>
     rw[hag]at hh;simp only[F0]at hh |-;cases hq:cs[off]? with
     |none=>rw[hq]at hh;cases hh
     |some u=>rw[hq]at hh;cases hh;rfl
 |_=>exact hk _ hh
omit [Dr]in
theorem xf(d:Option Tmp)(t:TypeId)(p:Nat):bc (fun m=>gU m/\cw m) (cK cx e d t p):=by
 unfold cK;split
 ·split
  ·trivial
  ·exact bc.cond (fun _=>bc.cond (fun _=>trivial) (fun _=>bc.cond (fun _=>trivial) (fun _=>trivial))) (fun _=>trivial)
 ·cases hm:bd cx.ann.hl d with
  |true=>exact⟨uJ _ _ _,lQ _ _ _⟩
  |false=>exact⟨(aR.lft _).app,(aR.lft _).read⟩
omit [Dr]in
theorem wL{A:Act1}(h:bc cO A):bc cO (BW A):=by
 cases A with
 |bad=>trivial
 |stat u=>intro h v h' hh;cases hh
 |dyn m sh=>
  intro x v h' hh;simp only[Av.ae,tj]at hh;cases hm:m x<;>rw[hm]at hh<;>simp at hh;exact h _ _ _ hm
 |thr v=>exact h.elim
omit [Dr]in
theorem rW(t p i:Nat):bc aR (eN cx e t p i):=by
 unfold eN;split
 ·split
  ·trivial
  ·split
   ·trivial
   ·split
    ·trivial
    ·exact bc.cond (fun _=>trivial) (fun _=>trivial)
 ·exact aR.lft _
omit [Dr]in
theorem r6(t p:Nat)(i:Operand):bc aR (cp cx e t p i):=by
 unfold cp;split
 ·split
  ·split
   ·split
    ·trivial
    ·exact bc.cond (p:=aR) (fun _=>trivial) (fun _=>trivial)
   ·trivial
  ·trivial
 ·exact aR.lft _
omit [Dr]in
theorem sL(t p:Nat)(y:Operand):bc cO (dN cx e gid t p y):=by
 have hl:∀o:Option AV,cO (Av.ah o):=fun o=>(aR.lft o).read.stay;unfold dN;split
 ·split
  ·trivial
  ·refine bc.cond (fun _=>bc.cond (fun _=>bc.cond (fun _=>hl _) (fun _=>trivial)) (fun _=>bc.cond (fun _=>hl _) (fun _=>bc.cond (fun _=>?_) (fun _=>trivial)))) (fun _=>trivial);split
   ·split
    ·exact hl _
    ·trivial
   ·exact bc.cond (fun _=>trivial) (fun _=>hl _)
 ·exact q7 _ _ _ _
omit [Dr]in
theorem sK(t p:Nat)(y:Operand)(hl:eZ (e.get p)=true):bc aR (dN cx e gid t p y):=by
 have hl':∀o:Option AV,aR (Av.ah o):=fun o=>aR.lft o;unfold dN;cases hv:(e.get p).v with
 |val a=>simp[eZ,hv]at hl
 | loc B off=>
  simp only;split
  ·trivial
  ·refine bc.cond (fun _=>bc.cond (fun _=>bc.cond (fun _=>hl' _) (fun _=>trivial)) (fun _=>bc.cond (fun _=>hl' _) (fun _=>bc.cond (fun _=>?_) (fun _=>trivial)))) (fun _=>trivial);split
   ·split
    ·exact hl' _
    ·trivial
   ·exact bc.cond (fun _=>trivial) (fun _=>hl' _)
omit [Dr]in
theorem gg(s t:Nat):bc cO (dL cx e gid s t)/\(bv cx.ann.kinds s .L≠.H->bv cx.ann.kinds s .L≠.B->bc aR (dL cx e gid s t)):=by
 unfold dL;split
 ·exact⟨trivial,fun _ _=>trivial⟩
 ·cases hk:bv cx.ann.kinds s .L with
  |F=>exact⟨trivial,fun _ _=>trivial⟩
  |H=>exact⟨nJ _,fun h=>absurd rfl h⟩
  |B=>exact⟨uN _ _,fun _ h=>absurd rfl h⟩
  |L=>exact⟨bc.cond (fun _=>trivial) (fun _=>trivial),fun _ _=>bc.cond (fun _=>trivial) (fun _=>trivial)⟩
  |S=>exact⟨bc.cond (fun _=>trivial) (fun _=>trivial),fun _ _=>bc.cond (fun _=>trivial) (fun _=>trivial)⟩
omit [Dr]in
theorem mX(s t:Nat)(x:Operand):bc cO (gC cx e s t x)/\(bv cx.ann.kinds s .F≠.H->bc aR (gC cx e s t x)):=by
 have hl:∀o:Option AV,cO (Av.ah o):=fun o=>(aR.lft o).read.stay;unfold gC;cases hk:bv cx.ann.kinds s .F with
 |F=>exact⟨trivial,fun _=>trivial⟩
 |H=>exact⟨nJ _,fun h=>absurd rfl h⟩
 |B=>exact⟨trivial,fun _=>trivial⟩
 |L=>
  simp only;split
  ·exact⟨trivial,fun _=>trivial⟩
  ·exact⟨bc.cond (fun _=>hl _) (fun _=>trivial),fun _=>bc.cond (fun _=>aR.lft _) (fun _=>trivial)⟩
 |S=>
  simp only;split
  ·exact⟨trivial,fun _=>trivial⟩
  ·exact⟨bc.cond (fun _=>hl _) (fun _=>trivial),fun _=>bc.cond (fun _=>aR.lft _) (fun _=>trivial)⟩
structure Class (f:Foot) (A:Act1):Prop where
 stay:f.piv=false->bc cO A
 read:f.wh=false->bc cw A
 pure:f.wh=false->f.rh=false->bc aR A
 app:f.wh=false->bc (fun m=>gU m/\cw m) A
 nw:f.nw=true->bc rr A
omit [Dr]in
theorem bc.imp{p q:∀ {α:Type},M α->Prop}(hpq:∀ {α:Type} (m:M α),p m->q m){A:Act1}(h:bc p A):bc q A:=by
 cases A<;>first|trivial|exact hpq _ h|exact h
omit [Dr]in
theorem Class.of_pure{f:Foot}{A:Act1}(h:bc aR A):Class f A:=
 ⟨fun _=>h.imp fun _ g=>g.read.stay,fun _=>h.imp fun _ g=>g.read,fun _ _=>h,fun _=>h.imp fun _ g=>⟨g.app,g.read⟩,fun _=>h.imp fun _ g=>g.nw⟩
omit [Dr]in
theorem gU.nw{α:Type}{m:M α}(h:cw m):rr m:=fun x v h' hh=>by
 rcases h x with g|⟨u,g⟩
 ·rw[g]at hh;cases hh
 ·rw[g]at hh;cases hh;exact⟨[],by simp⟩
omit [Dr]in
theorem Class.of_app{f:Foot}{A:Act1}(_hw:f.wh=false)(hr:f.rh=true)(h:bc (fun m=>gU m/\cw m) A):Class f A:=
 ⟨fun _=>h.imp fun _ g=>g.2.stay,fun _=>h.imp fun _ g=>g.2,fun _ h=>by(rw[hr]at h;cases h),fun _=>h,fun _=>h.imp fun _ g=>gU.nw g.2⟩
omit [Dr]in
theorem mS(T:TT)(t:TypeId)(x y:AV):cw (pw T t x y):=by
 intro h;unfold pw;cases mN h y with
 |none=>exact .inl rfl
 |some es=>
  simp only;cases cZ T t x (.sl es)with
  |none=>exact .inl rfl
  |some v=>exact .inr ⟨v,rfl⟩
omit [Dr]in
theorem xN{h s:Hp}{y:AV}{es:List AV}(hh:mN h y=some es):mN (h++s) y=some es:=by
 unfold mN at hh |-;split at hh
 ·rename_i l off len sz ag;cases hl:h[l]? with
  |none=>rw[hl]at hh;cases hh
  | some cs=>
   rw[hl]at hh;have hl':(h++s)[l]? = some cs:=by
    rw[Hh]
    have:=(Hi.1 hl).1
    rw[FY this,hl]
   simp only[hl'];exact hh
 ·exact hh
 ·exact hh
 ·cases hh
omit [Dr]in
theorem px(T:TT)(t:TypeId)(x y:AV):gU (pw T t x y):=by
 intro h s v hh;unfold pw at hh |-;cases hs:mN h y with
 |none=>rw[hs]at hh;cases hh
 |some es=>
  rw[hs]at hh;rw[xN hs];simp only at hh |-;cases ha:cZ T t x (.sl es)with
  |none=>rw[ha]at hh;cases hh
  |some u=>rw[ha]at hh;cases hh;rfl
omit [Dr]in
theorem Class.of_stay{f:Foot}{A:Act1}(hw:f.wh=true)(hn:f.nw=false)(h:bc cO A):Class f A:=
 ⟨fun _=>h,fun h=>by(rw[hw]at h;cases h),fun h=>by(rw[hw]at h;cases h),fun h=>by(rw[hw]at h;cases h),fun h=>by(rw[hn]at h;cases h)⟩
omit [Dr]in
theorem Class.of_piv{f:Foot}{A:Act1}(hw:f.wh=true)(h:f.piv=true)(hn:f.nw=true->bc rr A):Class f A:=
 ⟨fun h'=>by(rw[h]at h';cases h'),fun h=>by(rw[hw]at h;cases h),fun h=>by(rw[hw]at h;cases h),fun h=>by(rw[hw]at h;cases h),hn⟩
omit [Dr]in
theorem rD(hI:IsoPure cx){c:Call}(ho:o.op= .call c):Class (aj cx o) (dM cx e gid o c):=by
 unfold dM;cases hc:c.callee with
 |invoke r m=>exact .of_pure trivial
 | value x=>
  cases x with
  | func f=>
   simp only;cases hfz:bd cx.ann.fz o.dst with
   | true=>
    simp only[FW];cases hq:!(cx.iso f)&&!(cx.nw f)&&(cx.own f).isNone with
    |false=>exact .of_pure trivial
    |true=>
     simp only[FV,GI]at hq;exact .of_piv (by unfold aj;rw[ho];simp only[hc,hq.1.1,F0]) (by unfold aj;rw[ho];simp only[hc,hq.1.1,F0]) fun hn=>by unfold aj at hn;rw[ho]at hn;simp only[hc,hq.1.1,F0,hq.1.2]at hn;cases hn
   |false=>
   simp only[F0];cases hi:cx.iso f with
   |true=>exact .of_pure (hI.iso f _ hi)
   |false=>exact .of_piv (by unfold aj;rw[ho];simp only[hc,hi,F0]) (by unfold aj;rw[ho];simp only[hc,hi,F0]) fun hn=>hI.nw f _ (by unfold aj at hn;rw[ho]at hn;simpa only[hc,hi,F0]using hn)
  |_=>exact .of_piv (by unfold aj;rw[ho];simp only[hc]) (by unfold aj;rw[ho];simp only[hc]) fun hn=>by unfold aj at hn;rw[ho]at hn;simp[hc]at hn
 | builtin b=>
  cases b<;>simp only<;>(try exact .of_pure trivial)
  case clear=>
   have hw:(aj cx o).wh=true/\(aj cx o).nw=false:=by unfold aj;rw[ho];simp only[hc];exact⟨trivial,trivial⟩
   split
   ·exact .of_stay hw.1 hw.2 (pH _ _ _)
   ·exact .of_pure trivial
  case append=>
   split
   ·cases hu:eF cx.T _ with
    |false=>exact .of_pure trivial
    | true=>
     simp only[GA,F0];cases hha:bd cx.ann.ha o.dst with
     | true=>exact .of_stay (by unfold aj;rw[ho];simp only[hc,hha,FW]) (by unfold aj;rw[ho];simp only[hc,hha,FW]) (by
       cases bd cx.ann.hb o.dst with
       |true=>simp only[FW];exact t6 _ _ _ _
       |false=>exact t7 _ _ _ _ _)
     | false=>
      simp only[F0];cases hhl:bd cx.ann.hl o.dst with
      | true=>
       refine .of_app (by unfold aj;rw[ho];simp only[hc,hha,F0]) (by unfold aj;rw[ho];simp only[hc,hha,hhl,F0]) ?_;simp only[FW];refine bc.cond (fun _=>⟨px _ _ _ _,mS _ _ _ _⟩) (fun _=>?_);split
       ·split
        ·trivial
        ·split
         ·trivial
         ·exact bc.cond (fun _=>⟨px _ _ _ _,mS _ _ _ _⟩) (fun _=>trivial)
       ·trivial
      | false=>
       refine .of_pure ?_;simp only[F0];refine bc.cond (fun _=>aR.lft _) (fun _=>?_);split
       ·split
        ·trivial
        ·split
         ·trivial
         ·exact bc.cond (fun _=>aR.lft _) (fun _=>trivial)
       ·trivial
   ·exact .of_pure trivial
  case len=>
   split
   ·exact .of_pure (aR.lft _)
   ·exact .of_pure trivial
  case min=>exact .of_pure (aR.lft _)
  case max=>exact .of_pure (aR.lft _)
omit [Dr]in
theorem de(hI:IsoPure cx)(e:Env)(gid:Nat)(o:Oper):Class (aj cx o) (dG cx e gid o):=by
 unfold dG;cases ho:o.op<;>simp only<;>(try exact .of_pure (aR.lft _))<;>(try exact .of_pure trivial)
 case binOp=>exact .of_pure (bc.cond (fun _=>trivial) fun _=>aR.lft _)
 case buildSlice t n ps=>
  cases hha:bd cx.ann.ha o.dst with
  |true=>exact .of_stay (by unfold aj;rw[ho];simp only[hha,FW]) (by unfold aj;rw[ho];simp only[hha,FW]) (pB _ _ _ _)
  |false=>exact .of_pure (aR.lft _)
 case makeSlice t x y=>
  cases hha:bd cx.ann.ha o.dst with
  |true=>exact .of_stay (by unfold aj;rw[ho];simp only[hha,FW]) (by unfold aj;rw[ho];simp only[hha,FW]) (se _ _ _ _)
  |false=>exact .of_pure (aR.lft _)
 case move x=>exact .of_pure (nH _ x)
 case assign x=>exact .of_pure (nH _ x)
 case box t x=>
  cases hd:o.dst with
  |none=>exact .of_pure trivial
  |some s=>
   cases hk:bv cx.ann.kinds s .F with
   |H=>exact .of_stay (by unfold aj;rw[ho];simp only[hd,hk]) (by unfold aj;rw[ho];simp only[hd,hk]) (mX s t x).1
   |_=>exact .of_pure ((mX s t x).2 (by rw[hk];simp))
 case alloc t=>
  cases hd:o.dst with
  |none=>exact .of_pure trivial
  |some s=>
   cases hk:bv cx.ann.kinds s .L with
   |H=>exact .of_stay (by unfold aj;rw[ho];simp only[hd,hk]) (by unfold aj;rw[ho];simp only[hd,hk]) (gg s t).1
   |B=>exact .of_stay (by unfold aj;rw[ho];simp only[hd,hk]) (by unfold aj;rw[ho];simp only[hd,hk]) (gg s t).1
   |_=>exact .of_pure ((gg s t).2 (by rw[hk];simp) (by rw[hk];simp))
 case load t x=>
  cases x with
  |tmp p=>
   have h:=sc (cx:=cx) (e:=e) o.dst t p;simp only;cases hnl:bd cx.ann.nl o.dst&&eZ (e.get p)with
   |true=>exact .of_pure trivial
   |false=>
   simp only[F0];cases hz:bd cx.ann.fz o.dst with
   |true=>exact .of_stay (by unfold aj;rw[ho];exact hz) (by unfold aj;rw[ho]) (wL (h.1.imp fun _ g=>g.stay))
   |false=>exact⟨fun _=>h.1.imp fun _ g=>g.stay,fun _=>h.1,fun _ hr=>h.2 (by unfold aj at hr;rw[ho]at hr;exact hr),fun _=>xf o.dst t p,fun hn=>by unfold aj at hn;rw[ho]at hn;cases hn⟩
  |_=>exact .of_pure trivial
 case store t x y=>
  cases x with
  | tmp p=>
   cases hd:o.dst with
   |some d=>exact .of_pure trivial
   | none=>
    simp only;cases hlw:dw cx.ann.lw p with
    |false=>exact .of_stay (by unfold aj;rw[ho];simp[hlw]) (by unfold aj;rw[ho]) (by simp only[HG,F0];exact sL t p y)
    |true=>
     cases hlo:eZ (e.get p)with
     |false=>exact .of_pure trivial
     |true=>exact .of_pure (by simp only[GA,Iu,F0];exact sK t p y hlo)
  |_=>exact .of_pure trivial
 case nilCheck x=>
  cases x with
  |tmp p=>
   simp only;split
   ·exact .of_pure trivial
   ·exact .of_pure (aR.lft _)
  |_=>exact .of_pure trivial
 case fieldAddr t x i=>cases x<;>first|exact .of_pure (rW _ _ _)|exact .of_pure trivial
 case indexAddr t x i=>cases x<;>first|exact .of_pure (r6 _ _ _)|exact .of_pure (aR.lft _)|exact .of_pure trivial
 case slice t x lo hi mx=>
  refine .of_pure (bc.cond (fun _=>?_) fun _=>aR.lft _);unfold iX;split
  ·split
   ·trivial
   ·split
    ·exact bc.cond (fun _=>aR.lft _) fun _=>trivial
    ·trivial
  ·trivial
 case makeMap t r=>exact .of_stay (by unfold aj;rw[ho]) (by unfold aj;rw[ho]) (bc.cond (fun _=>trivial) fun _=>oT)
 case lookup t x i ok=>exact .of_app (by unfold aj;rw[ho]) (by unfold aj;rw[ho]) ⟨uK _ _ _ _ _,sd _ _ _ _ _⟩
 case mapUpdate t m k x=>exact .of_stay (by unfold aj;rw[ho]) (by unfold aj;rw[ho]) (by unfold gD;split;exact nO _ _ _ _ _;trivial)
 case insert t m k x=>exact .of_stay (by unfold aj;rw[ho]) (by unfold aj;rw[ho]) (by unfold gD;split;exact nO _ _ _ _ _;trivial)
 case range t x=>exact .of_stay (by unfold aj;rw[ho]) (by unfold aj;rw[ho]) (qK _ _ _)
 case entry x=>exact .of_app (by unfold aj;rw[ho]) (by unfold aj;rw[ho]) ⟨rP _,pN _⟩
 case panic x=>
  refine .of_piv ?_ ?_ ?_
  ·unfold aj;rw[ho]
  ·unfold aj;rw[ho]
  ·intro hn;unfold aj at hn;rw[ho]at hn;cases hn
 case call c=>exact rD hI ho
end
end Go.Av
