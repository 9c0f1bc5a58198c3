/- The abstract evaluator of the model and plain laws, part 2: its soundness holds for every program whose table of types is the evaluator's. No further condition. -/
import Derived.Test.YtnipfhmghjdnmaaGreatLa
import Derived.Sort.MapsRangeIn
import Derived.Maps.OwnIn
import Derived.RangeFuncSeq
set_option linter.defProp false
set_option linter.unusedSimpArgs false
set_option linter.unusedVariables false
namespace Go.Av
section
variable {P:Program} {T:TT} {w:World} {S:aE} {β:List bT}
theorem wP{α:Type}{g:α->PUnit->Sem (ForInStep PUnit)}:∀(l:List α),(∀x∈l,(g x ⟨⟩).run P w= .ok (.yield ⟨⟩) w)->(forIn l PUnit.unit g).run P w= .ok ⟨⟩ w
 |[],_=>by simp
 |x:: l,h=>by
  rw[List.forIn_cons];simp only[Sem.run_bind,h x (by simp),Result.andThen_ok];exact wP l fun y hy=>h y (by simp[hy])
theorem lh(hT:TOK P T):(d n:Nat)->d<=n->(t:TypeId)->(x:AV)->(v:Value)->(em:Bool)->wi T d t x=true->VR S β x v->(Instr.checkKey em n t v).run P w= .ok () w
 |0,_,_,t,x,v,em,h,_=>by simp[wi]at h
 |d+1,0,hn,_,_,_,_,_,_=>by omega
 | d + 1,n+1,hn,t,x,v,em,h,hx=>by
  unfold wi at h;cases ht:T t with
  |none=>rw[ht]at h;cases h
  | some ti=>
   rw[ht]at h;simp only at h;obtain⟨i,dd,z,hi,hd,_,_,hsz,_,hk,hag,hof,_⟩:=(hT.get ht).ex;unfold Instr.checkKey;simp only[Sem.run_bind,run_underlying hd,Result.andThen_ok];split at h
   case h_1 hkk=>cases dd<;>simp only[kindOf,hkk,reduceCtorEq]at hk;simp
   case h_2 hkk=>cases dd<;>simp only[kindOf,hkk,reduceCtorEq]at hk;simp
   case h_3 hkk=>cases dd<;>simp only[kindOf,hkk,reduceCtorEq]at hk;simp
   case h_4 hkk=>cases dd<;>simp only[kindOf,hkk,reduceCtorEq]at hk;simp
   case h_5 cs hkk=>
    obtain⟨fs,rfl⟩:∃fs,dd= .struct fs:=by cases dd<;>simp only[kindOf,hkk,reduceCtorEq]at hk;exact⟨_,rfl⟩
    simp only[VR]at hx;obtain⟨vs,rfl,hvs⟩:=hx;simp only;rw[<- hof,Oc]at h
    have hall:∀f∈fs.toList,((if f.name≠ "_" then(do
       let y <- part f.type vs.toArray f.offset
       Instr.checkKey em n f.type y
       pure (ForInStep.yield PUnit.unit))else pure (ForInStep.yield PUnit.unit)):Sem (ForInStep PUnit)).run P w= .ok (.yield ⟨⟩) w:=by
     intro f hf
     have:=h (f.offset,f.type,decide (f.name≠ "_")) (by simp only[mW,O4];exact⟨f,hf,rfl⟩)
     simp only at this;split
     ·cases htf:T f.type with
      |none=>rw[htf]at this;cases this
      | some fi=>
       rw[htf]at this;simp only at this;cases hp:r4 fi cs f.offset with
       |none=>rw[hp]at this;cases this
       |some y=>
        rw[hp]at this;obtain⟨u,hu,hur⟩:=qt (P:=P) (w:=w) (S:=S) (β:=β) hT htf hvs hp;simp only[Sem.run_bind,hu,Result.andThen_ok];rw[lh hT d n (by omega) f.type y u em this hur];simp
     ·simp
    have:=wP (P:=P) (w:=w) (g:=fun(f:Field) (_:PUnit)=>(if f.name≠ "_" then(do
       let y <- part f.type vs.toArray f.offset
       Instr.checkKey em n f.type y
       pure (ForInStep.yield PUnit.unit))else pure (ForInStep.yield PUnit.unit):Sem (ForInStep PUnit))) fs.toList hall
    simp only[Array.forIn_toList]at this;simp only[Sem.run_bind,this,Result.andThen_ok,Sem.run_pure]
   ·cases h
theorem yd(w:World)(hT:TOK P T){d:Nat}{t:Nat}{dd:TypeDesc}(hd:P.underlying t=some dd){x y:AV}{vx vy:Value}{b b':Bool}(h:yA T (d+1) t x y=some b)(hx:VR S β x vx)(hy:VR S β y vy)(hs:Instr.sameNow dd vx vy=some b'):b'=b:=by
 have h0:=qU (P:=P) (w:=w) hT (d+1) (d+1) (NL _) t x y vx vy b h hx hy;unfold Instr.sameNow at hs;split at hs
 ·split at hs
  ·rename_i hkk;simp only[NB]at hs;subst hs;simp[Op.equalIn,run_underlying hd,hkk]at h0;exact h0
  ·cases hs
 ·simp only[NB]at hs;subst hs;simp[Op.equalIn,run_underlying hd]at h0;exact h0
 ·simp only[NB]at hs;subst hs;simp[Op.equalIn,run_underlying hd]at h0;exact h0
 ·cases hs
def um(S:aE)(β:List bT)(ents:List MapEntry)(i0:Nat):Option (Nat×AV×AV)->Option (Nat×Value)->Prop
 |none,r=>r=none
 |some (i,k,v),r=>∃u x,r=some (i,u)/\i0<=i/\ents[i-i0]? = some x/\VR S β k x.key/\VR S β v x.val/\u=x.val
theorem iJ.cons{e:AV}{es:List AV}{ents:List MapEntry}(h:iJ S β (e:: es) ents):∃k v x ents',e= .tup [k,v]/\ents=x:: ents'/\VR S β k x.key/\VR S β v x.val/\iJ S β es ents':=by
 obtain⟨h1,h2⟩:=h;cases ents with
 |nil=>simp at h1
 |cons x ents'=>
  obtain⟨k,v,g1,g2,g3⟩:=h2 0 e x rfl rfl;exact⟨k,v,x,ents',g1,rfl,g2,g3,by simpa using h1,fun i a b ha hb=>h2 (i+1) a b (by simpa using ha) (by simpa using hb)⟩
theorem wE(hT:TOK P T){kt:Nat}{dd:TypeDesc}(hd:P.underlying kt=some dd){k:AV}{vk:Value}(hk:VR S β k vk):∀(es:List AV)(ents:List MapEntry)(i:Nat)(r:Option (Nat×AV×AV)),bn T kt k es i=some r->iJ S β es ents->
  ∃r',um S β ents i r r'/\(∀r2,Instr.findNow dd vk ents i=some r2->r2=r')/\(Instr.findAsking kt vk ents i).run P w= .ok r' w
 |[],ents,i,r,h,he=>by
  have:ents=[]:=by simpa using he.1.symm
  subst this;simp only[bn,NB]at h;subst h;exact⟨none,rfl,fun r2 h2=>by simp[Instr.findNow]at h2;exact h2.symm,by simp[Instr.findAsking]⟩
 | e :: es,ents,i,r,h,he=>by
  obtain⟨k',v,x,ents',rfl,rfl,hk',hv,he'⟩:=he.cons;simp only[bn]at h;cases hq:yA T 20 kt k k' with
  |none=>rw[hq]at h;cases h
  | some b=>
   have heq:=qU (P:=P) (w:=w) hT 20 Op.maxDepth (by decide) kt k k' vk x.key b hq hk hk';have hsn:=fun b'=>yd (P:=P) (b':=b') w hT hd hq hk hk';rw[hq]at h;cases b with
   | true=>
    simp only[NB]at h;subst h;refine⟨some (i,x.val),⟨x.val,x,rfl,NL _,by simp,hk',hv,rfl⟩,fun r2 h2=>?_,?_⟩
    ·unfold Instr.findNow at h2;split at h2
     ·simpa using h2.symm
     ·rename_i hs;have:=hsn false hs;cases this
     ·cases h2
    ·unfold Instr.findAsking;simp[Op.equal,heq]
   | false=>
    simp only at h;obtain⟨r',h1,h2,h3⟩:=wE hT hd hk es ents' (i+1) r h he';refine⟨r',?_,fun r2 hr2=>?_,?_⟩
    ·cases r with
     |none=>exact h1
     |some q=>
      obtain⟨j,k2,v2⟩:=q;obtain⟨u,y,g1,g2,g3,g4⟩:=h1;refine⟨u,y,g1,by omega,?_,g4⟩;rw[show j-i=(j-(i+1))+1 by omega];simpa using g3
    ·unfold Instr.findNow at hr2;split at hr2
     ·rename_i hs;have:=hsn true hs;cases this
     ·exact h2 r2 hr2
     ·cases hr2
    ·unfold Instr.findAsking;simp only[Op.equal,Sem.run_bind,heq,Result.andThen_ok,NC,NK];exact h3
theorem q9(hT:TOK P T){kt:Nat}{dd:TypeDesc}(hd:P.underlying kt=some dd){k:AV}{vk:Value}(hk:VR S β k vk){es:List AV}{ents:List MapEntry}{r:Option (Nat×AV×AV)}(h:bn T kt k es 0=some r)(he:iJ S β es ents):
  ∃r',um S β ents 0 r r'/\(Instr.findKey kt vk ents).run P w= .ok r' w:=by
 obtain⟨r',h1,h2,h3⟩:=wE (P:=P) (w:=w) hT hd hk es ents 0 r h he;refine⟨r',h1,?_⟩;unfold Instr.findKey;simp only[Sem.run_bind,run_underlying hd,Result.andThen_ok];cases hn:Instr.findNow dd vk ents 0 with
 |none=>exact h3
 |some r2=>
  have:=h2 r2 hn
  subst this;simp
theorem yb{x y:AV}(h:Ba x y=true){v u:Value}(hx:VR S β x v)(hy:VR S β y u):v=u/\x=y/\∀n,Instr.sameBits n v u=true:=by
 unfold Ba at h;split at h
 ·simp only[VR]at hx hy
  have:=eq_of_beq h
  subst this hx hy;exact⟨rfl,rfl,fun n=>by cases n<;>simp[Instr.sameBits]⟩
 ·simp only[VR]at hx hy;simp only[NG,Oa,Ol]at h;obtain⟨rfl,rfl⟩:=h;subst hx hy;exact⟨rfl,rfl,fun n=>by cases n<;>simp[Instr.sameBits]⟩
 ·simp only[VR]at hx hy
  have:=eq_of_beq h
  subst this;obtain⟨x,rfl,hx⟩:=hx;obtain⟨y,rfl,hy⟩:=hy;have:x=y:=wq.1 (hx.trans hy.symm);subst this;exact⟨rfl,rfl,fun n=>by cases n<;>simp[Instr.sameBits,beq_toListBytes]⟩
 ·cases h
theorem ub:∀ {xs ys:List AV},vw xs ys=true->∀ {vs us:List Value},bC S β xs vs->bC S β ys us->vs=us/\xs=ys/\∀n,(vs.zip us).all (fun(x,y)=>Instr.sameBits n x y)=true
 |[],[],_,vs,us,hx,hy=>by
  simp only[bC]at hx hy;subst hx hy;exact⟨rfl,rfl,fun n=>rfl⟩
 |x:: xs,y:: ys,h,vs,us,hx,hy=>by
  simp only[vw,NG]at h;simp only[bC]at hx hy;obtain⟨v,vs,rfl,h1,h2⟩:=hx;obtain⟨u,us,rfl,g1,g2⟩:=hy;obtain⟨rfl,rfl,k1⟩:=yb h.1 h1 g1;obtain⟨rfl,rfl,k2⟩:=ub h.2 h2 g2;exact⟨rfl,rfl,fun n=>by simp only[List.zip_cons_cons,OT,k1,PG];exact k2 n⟩
 |[],_:: _,h,_,_,_,_=>by cases h
 |_:: _,[],h,_,_,_,_=>by cases h
theorem Fz{x y:AV}(h:yc x y=true){v u:Value}(hx:VR S β x v)(hy:VR S β y u):v=u/\x=y/\∀n,Instr.sameBits (n+1) v u=true:=by
 unfold yc at h;split at h
 ·simp only[VR]at hx hy;obtain⟨vs,rfl,h1⟩:=hx;obtain⟨us,rfl,h2⟩:=hy;obtain⟨rfl,rfl,k⟩:=ub h h1 h2;exact⟨rfl,rfl,fun n=>by simp only[Instr.sameBits,OB,PG];exact k n⟩
 ·obtain⟨h1,h2,h3⟩:=yb h hx hy;exact⟨h1,h2,fun n=>h3 _⟩
theorem uW(hT:TOK P T){t kt et:Nat}(h:f5 T t=some (kt,et)):P.underlying t=some (.map kt et):=by
 unfold f5 at h;cases ht:T t with
 |none=>rw[ht]at h;cases h
 | some ti=>
  rw[ht]at h;obtain⟨i,dd,z,hi,hd,_,_,hsz,_,hk,_⟩:=(hT.get ht).ex;simp only at h;split at h
  ·rename_i hkk;simp only[NB,OG]at h;obtain⟨rfl,rfl⟩:=h;cases dd<;>simp only[kindOf,hkk,reduceCtorEq,TK.map.injEq]at hk;obtain⟨rfl,rfl⟩:=hk;exact hd
  ·cases h
theorem tg(hT:TOK P T){d t:Nat}{x:AV}(h:wi T d t x=true):∃dd,P.underlying t=some dd:=by
 cases d with
 |zero=>simp[wi]at h
 | succ d=>
  unfold wi at h;cases ht:T t with
  |none=>rw[ht]at h;cases h
  |some ti=>
   obtain⟨i,dd,z,hi,hd,_⟩:=(hT.get ht).ex;exact⟨dd,hd⟩
theorem FT(hT:TOK P T){t:Nat}{ti:TI}(ht:T t=some ti):∃z,(zeroValue t).run P w= .ok z w/\VR S β (fy ti) z:=by
 obtain⟨i,d,z,hi,hd,hz,_⟩:=(hT.get ht).ex;exact⟨z,by simp[zeroValue,typeInfo,hi,hz],(sY hT ht hi hz).1⟩
theorem nY{r clock:Nat}{es:Array MapEntry}(hb:w.heap[r]? = some (.map es clock)):(getObj r).run P w= .ok (.map es clock) w:=by
 simp[getObj,Sem.run,hb]
def cy(w:World)(b:Nat)(o:Obj):World:={ w with heap:=w.heap.setIfInBounds b o }
theorem xZ{r clock:Nat}{es:Array MapEntry}(o:Obj)(hb:w.heap[r]? = some (.map es clock)):(setObj r o).run P w= .ok () (cy w r o):=by
 simp[setObj,Sem.run,hb,cy]
theorem look_ok(hT:TOK P T){t:Nat}{es:List AV}{k r:AV}{ok:Bool}(h:ly T t es k ok=some r){vm vk:Value}(hk:VR S β k vk){ents:Array MapEntry}(he:iJ S β es ents.toList)(hm:(vm= .map none/\ents= #[])\/∃b clock,vm= .map (some b)/\w.heap[b]? = some (.map ents clock)):qA P w S β (Instr.lookup t vm vk ok) r:=by
 unfold ly at h;cases hmt:f5 T t with
 |none=>rw[hmt]at h;cases h
 | some q=>
  obtain⟨kt,et⟩:=q;rw[hmt]at h;simp only at h;cases hck:wi T 20 kt k with
  |false=>rw[hck]at h;cases h
  | true=>
   rw[hck]at h;simp only[NF]at h;cases hte:T et with
   |none=>rw[hte]at h;cases h
   | some ei=>
    rw[hte]at h;simp only at h;obtain⟨dd,hd⟩:=tg hT hck;have hu:=uW hT hmt;have hc:=fun em=>lh (P:=P) (w:=w) hT 20 10000 (by decide) kt k vk em hck hk;have hgo:∀(r:AV)(r':Option (Nat×Value)),(Instr.findKey kt vk ents.toList).run P w= .ok r' w->
      (∃v b,(r'=none->b=false/\(zeroValue et).run P w= .ok v w)/\(∀q,r'=some q->b=true/\v=q.2)/\VR S β r (if ok then .tuple #[v,.bool b]else v))->qA P w S β (Instr.lookup t vm vk ok) r:=by
     rintro r r' hf ⟨v,b0,h1,h2,h3⟩;refine⟨_,?_,h3⟩;unfold Instr.lookup;rcases hm with⟨rfl,rfl⟩|⟨b,clock,rfl,hb⟩
     ·simp only[Sem.run_bind,run_underlying hu,Result.andThen_ok,Sem.run_pure,hc,hf];cases r' with
      |none=>obtain⟨rfl,h1⟩:=h1 rfl;simp only[Sem.run_bind,h1,Result.andThen_ok,Sem.run_pure]
      |some q=>obtain⟨rfl,rfl⟩:=h2 q rfl;simp only[Sem.run_bind,Result.andThen_ok,Sem.run_pure]
     ·simp only[Sem.run_bind,run_underlying hu,Result.andThen_ok,nY hb,Sem.run_pure,hc,hf];cases r' with
      |none=>obtain⟨rfl,h1⟩:=h1 rfl;simp only[Sem.run_bind,h1,Result.andThen_ok,Sem.run_pure]
      |some q=>obtain⟨rfl,rfl⟩:=h2 q rfl;simp only[Sem.run_bind,Result.andThen_ok,Sem.run_pure]
    cases hf:bn T kt k es 0 with
    |none=>rw[hf]at h;cases h
    | some q=>
     rw[hf]at h;obtain⟨r',h1,h2⟩:=q9 (P:=P) (w:=w) hT hd hk hf he;cases q with
     |none=>
      simp only[NB]at h;subst h;simp only[um]at h1;subst h1;obtain⟨z,hz,hzr⟩:=FT (w:=w) (S:=S) (β:=β) hT hte;refine hgo _ none h2 ⟨z,false,fun _=>⟨rfl,hz⟩,(fun _ h=>by cases h),?_⟩;cases ok with
      |true=>simp only[NF,NS,VR];exact⟨[z,.bool false],rfl,by simp only[bC,VR];exact⟨_,_,rfl,hzr,_,_,rfl,rfl,rfl⟩⟩
      |false=>simpa using hzr
     |some q=>
      obtain⟨i,k',v⟩:=q;simp only[NB]at h;subst h;obtain⟨u,x,rfl,_,g2,g3,g4,rfl⟩:=h1;refine hgo _ _ h2 ⟨x.val,true,(fun h=>by cases h),(fun q h=>by cases h;exact⟨rfl,rfl⟩),?_⟩;cases ok with
      |true=>simp only[NF,NS,VR];exact⟨[x.val,.bool true],rfl,by simp only[bC,VR];exact⟨_,_,rfl,g4,_,_,rfl,rfl,rfl⟩⟩
      |false=>simpa using g4
theorem Fh(hT:TOK P T){t kt et:Nat}(hmt:f5 T t=some (kt,et)){es es':List AV}{k v:AV}(hck:wi T 20 kt k=true)(h:vj T kt es k v=some es'){vk vv:Value}(hk:VR S β k vk)(hv:VR S β v vv){ents:Array MapEntry}{clock b:Nat}(he:iJ S β es ents.toList)(hst:kd ents.toList clock)(hb:w.heap[b]? = some (.map ents clock)):
  ∃ents' clock',(Instr.mapUpdate t (.map (some b)) vk vv).run P w= .ok () (cy w b (.map ents' clock'))/\iJ S β es' ents'.toList/\kd ents'.toList clock'/\
   es.length<=es'.length/\(es'.length=es.length->clock'=clock/\ents'.toList.map (·.born)=ents.toList.map (·.born)):=by
 obtain⟨dd,hd⟩:=tg hT hck;have hu:=uW hT hmt;have hc:=lh (P:=P) (w:=w) hT 20 10000 (by decide) kt k vk false hck hk;unfold vj at h;cases hf:bn T kt k es 0 with
 |none=>rw[hf]at h;cases h
 | some q=>
  rw[hf]at h;obtain⟨r',h1,h2⟩:=q9 (P:=P) (w:=w) hT hd hk hf he;cases q with
  | none=>
   simp only[NB]at h;subst h;simp only[um]at h1;subst h1;refine⟨ents.push { key:=vk,val:=vv,born:=clock },clock+1,?_,?_,?_,by simp,by simp⟩
   ·unfold Instr.mapUpdate;simp only[Sem.run_bind,run_underlying hu,Result.andThen_ok,nY hb,hc,h2,xZ _ hb]
   ·refine⟨by simpa using he.1,fun i a x ha hx=>?_⟩;have hl:=he.1;simp only[QE]at hx;rw[PL]at ha hx;split at ha
    ·rename_i hlt;rw[NE (by omega)]at hx;exact he.2 i a x ha hx
    ·rename_i hlt;rw[if_neg (by omega)]at hx;rw[<- hl]at hx;cases hi:i-es.length with
     |zero=>
      rw[hi]at ha hx;simp at ha hx;subst ha hx;exact⟨k,v,rfl,hk,hv⟩
     |succ n=>rw[hi]at ha;simp at ha
   ·refine⟨fun x hx=>?_,?_⟩
    ·simp only[QE,N6,OA]at hx;rcases hx with hx|rfl
     ·exact Nat.lt_succ_of_lt (hst.1 x hx)
     ·exact Qo _
    ·simp only[QE];rw[List.pairwise_append];refine⟨hst.2,by simp,fun x hx y hy=>?_⟩;simp only[OA]at hy;subst hy;exact Nat.ne_of_lt (hst.1 x hx)
  | some q=>
   obtain⟨i,k',v0⟩:=q;simp only at h;cases hs:yc k' k with
   |false=>rw[hs]at h;cases h
   | true=>
    rw[hs]at h;simp only[NF,NB]at h;subst h;obtain⟨u,x,rfl,_,g2,g3,g4,rfl⟩:=h1;rw[QM]at g2;obtain⟨hkk,_,hbits⟩:=Fz hs g3 hk;have g2':ents[i]? = some x:=by simpa using g2
    have hmod:(ents.modify i fun e=>{ e with key:=vk,val:=vv }).toList=ents.toList.set i { x with key:=vk,val:=vv }:=by
     apply Pt;intro j;rw[Oe,P3,OP];by_cases hij:i=j
     ·subst hij;obtain⟨hlt,hgx⟩:=NT.1 g2';simp[hgx,hlt]
     ·simp[hij]
    have hmap:(ents.toList.set i { x with key:=vk,val:=vv }).map (·.born)=ents.toList.map (·.born):=by
     rw[List.map_set];apply Pt;intro j;rw[OP];by_cases hij:i=j
     ·subst hij;obtain⟨hlt,hgx⟩:=NT.1 g2';simp[hlt,hgx]
     ·simp[hij]
    refine⟨ents.modify i fun e=>{ e with key:=vk,val:=vv },clock,?_,?_,?_,by simp,fun _=>?_⟩
    ·unfold Instr.mapUpdate;simp only[Sem.run_bind,run_underlying hu,Result.andThen_ok,nY hb,hc,h2];simp only[g2',Oo,Option.getD_some,Instr.keyThatStays,hbits 9999,NS,Sem.run_pure,Result.andThen_ok,xZ _ hb]
    ·rw [hmod];refine⟨by simpa using he.1,fun j a y ha hy=>?_⟩;rw[OP]at ha hy;by_cases hij:i=j
     ·subst hij;simp only[NS]at ha hy;split at ha
      ·split at hy
       ·simp only[NB]at ha hy;subst ha hy;exact⟨k,v,rfl,hk,hv⟩
       ·cases hy
      ·cases ha
     ·simp only[hij,NK]at ha hy;exact he.2 j a y ha hy
    ·rw[hmod];have hxm:x∈ents.toList:=Ov g2;refine⟨fun y hy=>?_,?_⟩
     ·have:y.born∈(ents.toList.set i { x with key:=vk,val:=vv }).map (·.born):=Qw hy;rw[hmap,O4]at this;obtain⟨z,hz,hzb⟩:=this;rw[<- hzb];exact hst.1 z hz
     ·have h3:(ents.toList.map (·.born)).Pairwise (· ≠·):=QF.2 hst.2;rw[<- hmap]at h3;exact QF.1 h3
    ·exact⟨rfl,by rw[hmod,hmap]⟩
end
end Go.Av
namespace Go.Av
variable [Dr]
omit [Dr]in
theorem uR{a b:List MapEntry}(h:a.map (·.born)=b.map (·.born))(seen:Array Nat):cU a seen=cU b seen:=by
 have hl:a.length=b.length:=by simpa using NM List.length h
 unfold cU;rw[hl];refine Qj fun i _=>?_
 have:=NM (·[i]?) h
 simp only[Ou]at this;cases ha:a[i]? <;> cases hb:b[i]? <;> rw[ha,hb]at this<;>simp at this<;>simp[this]
omit [Dr]in
theorem pY.keepM{S S':aE}{β β':List bT}{w w':World}{h h':Hp}{b:Nat}{cs:List AV}(H:pY S β w h b cs)(hS:S.le S')(hβ:fm β β')(hb:w'.heap[b]? = w.heap[b]?)
  (hm:∀(l b':Nat)(es:List AV),β[l]? = some (b',0)->h'[l]? = some [.tup es]->∃es0,h[l]? = some [.tup es0]/\es0.length<=es.length/\
   (es.length=es0.length->∀ents clock,w.heap[b']? = some (.map ents clock)->∃ents',w'.heap[b']? = some (.map ents' clock)/\ents'.toList.map (·.born)=ents.toList.map (·.born))):pY S' β' w' h' b cs:=by
 rcases H with⟨es,h1,ents,clock,h2,h3,h4⟩|⟨l,n,ps,b',since,seen,last,cur,h1,h2,h3,h4,hcu,h5⟩|⟨h1,since,seen,last,h2⟩
 ·exact .inl ⟨es,h1,ents,clock,hb.trans h2,h3.mono hS hβ,h4⟩
 ·refine .inr (.inl ⟨l,n,ps,b',since,seen,last,cur,h1,hβ _ _ h2,h3,hb.trans h4,hcu,fun es he=>?_⟩);obtain⟨es0,g1,g2,g3⟩:=hm l b' es h2 he;obtain⟨k1,k2⟩:=h5 es0 g1;refine⟨by omega,fun hn=>?_⟩;obtain⟨ents,clock,j1,j2,j3,j4,j5⟩:=k2 (by omega);obtain⟨ents',i1,i2⟩:=g3 (by omega) ents clock j1;refine⟨ents',clock,i1,fun x hx=>?_,by rw[j3,uR i2],j4,fun c hc=>?_⟩
  ·have:x.born∈ents'.toList.map (·.born):=Qw hx;rw[i2,O4]at this;obtain⟨z,hz,hzb⟩:=this;rw[<- hzb];exact j2 z hz
  ·obtain⟨x,hx,hs⟩:=j5 c hc;have h1:(ents'.toList.map (·.born))[c]? = some x.born:=by rw[i2,Ou,hx];rfl
   rw[Ou]at h1;cases hy:ents'.toList[c]? with
   |none=>rw[hy]at h1;cases h1
   |some y=>
    rw[hy]at h1;simp only[Oo,NB]at h1;exact⟨y,rfl,by rw[hs,h1]⟩
 ·exact .inr (.inr ⟨h1,since,seen,last,hb.trans h2⟩)
omit [Dr]in
theorem eE.mapRow{S:aE}{β:List bT}{w:World}{ω:Nat->Owner}{h:Hp}(H:eE S β w ω h){l b:Nat}{es:List AV}(hl:h[l]? = some [.tup es])(hb:β[l]? = some (b,0)):
  ∃ents clock,w.heap[b]? = some (.map ents clock)/\iJ S β es ents.toList/\kd ents.toList clock/\ω b= .heap l/\∀o,S b o=none:=by
 rcases H l _ hl (by simp)with⟨b',x,k1,k2,k3,k4,k5,_⟩|⟨b',k1,k2,k3,k4⟩
 ·rw[hb]at k1;simp only[NB,OG]at k1;have h2:=k4.length;simp at h2;omega
 ·rw[hb]at k1;simp only[NB,OG,PY]at k1;subst k1;rcases k4 with⟨es',h1,ents,clock,h2,h3,h4⟩|⟨l',n,ps,b',since,seen,last,cur,h1,_⟩|⟨h1,_⟩
  ·simp only[O3,AV.tup.injEq,PY]at h1;subst h1;exact⟨ents,clock,h2,h3,h4,k2,k3⟩
  ·simp at h1
  ·simp at h1
section
variable {P:Program} {cx:Cx} {c:Entry} {N:Nat} {U:Nat->Prop} {e:Env} {h:Hp} {a:Act} {w:World} {S:aE} {β:List bT} {γ:Nat->Value} {lam:Nat->Option Nat} {ω:Nat->Owner} {o:Oper} {gid:Nat}
theorem Gro.allocO(w:World)(o:Obj):Gro w (w.alloc o):=⟨by simp,rfl,rfl,rfl,fun _=>by simp⟩
theorem FR.allocO(H:FR c N U e h a w S β γ lam ω)(o:Obj):FR c N U e h a (w.alloc o) S β γ lam ω:=
 H.world (fun b o' v hv=>by rw[cell_of_heap (alloc_old w _ (H.wf.lt hv))];exact H.wf b o' v hv) (Gro.allocO w o) (fun b hb=>⟨alloc_old w _ hb,fun _=>rfl⟩) (aE.le_refl S)
theorem FR.newM(H:FR c N U e h a w S β γ lam ω):
  ∃ω',FR c N U e (h++[[.tup []]]) a (w.alloc (.map #[] 0)) S (β++[(w.heap.size,0)]) γ lam ω'/\(β++[(w.heap.size,0)])[h.length]? = some (w.heap.size,0):=by
 have H2:=H.allocO (.map #[] 0);have hext:fm β (β++[(w.heap.size,0)]):=fun l b hb=>by
  have:l<β.length:=by
   rcases N7 l β.length with h|h
   ·exact h
   ·rw[NX h]at hb;simp at hb
  rw[NJ this];exact hb
 have hnew:(β++[(w.heap.size,0)])[h.length]? = some (w.heap.size,0):=by rw[<- H.hlen];simp
 have hωn:ω w.heap.size= .no:=by
  cases ho:ω w.heap.size with
  |no=>rfl
  |_=>have:=(H.mine w.heap.size (by rw[ho];simp)).2;omega
 have hω:∀b,ω b≠.no->cY ω w.heap.size (.heap h.length) b=ω b:=fun b hb=>by
  unfold cY;rw[if_neg];rintro rfl;exact hb hωn
 refine⟨cY ω w.heap.size (.heap h.length),⟨H2.wf,H2.gro,H2.keep,H2.le,fm.trans H2.ext hext,by simp[H.hlen],?_,H2.tsz,?_,H2.grps,?_,?_,?_,H2.used⟩,hnew⟩
 ·intro l cs' hl hne;rcases N7 l h.length with hlt|hge
  ·rw[NJ hlt]at hl;rcases H2.heap l cs' hl hne with⟨b,x,k1,k2,k3,k4,k5⟩|⟨b,k1,k2,k3,k4⟩
   ·exact .inl ⟨b,x,hext _ _ k1,k2,by rw[hω b (by rw[k3];simp)];exact k3,k4.mono (aE.le_refl S) hext,k5⟩
   ·refine .inr ⟨b,hext _ _ k1,by rw[hω b (by rw[k2];simp)];exact k2,k3,k4.keepM (aE.le_refl S) hext rfl fun j b' es hj he=>?_⟩;have hjl:j<h.length:=by
     rw[<- H.hlen];exact (NO.1 hj).1
    rw[NJ hjl]at he;exact⟨es,he,NL _,fun _ ents clock hh=>⟨ents,hh,rfl⟩⟩
  ·rw[N9 hge]at hl;have hlz:l=h.length:=by
    rcases ON (l-h.length)with h0|h0
    ·omega
    ·rw[NX (by simp;omega)]at hl;simp at hl
   subst hlz;simp only[P0,Od,NB]at hl;subst hl;exact .inr ⟨w.heap.size,hnew,by simp[cY],fun o=>H.wf.none (NL _) o,.inl ⟨[],rfl,#[],0,heap_alloc_new w _,⟨rfl,fun i e x he=>by simp at he⟩,fun x hx=>by simp at hx,by simp⟩⟩
 ·intro t' ht'
  have:=H2.slots t' ht'
  cases hv:(e.get t').v with
  |val av=>rw[hv]at this;exact VR.mono (aE.le_refl S) hext _ _ this
  |loc B off=>rw[hv]at this;exact this
 ·intro B n hB;obtain⟨h1,h2,h3,b,y,h4,h5,h6,h7,h8⟩:=H2.lblk B n hB;refine⟨h1,h2,h3,b,y,h4,h5,by rw[hω b (by rw[h6];simp)];exact h6,h7,fun i hi=>?_⟩;obtain⟨v,a',g1,g2,g3,g4⟩:=h8 i hi;exact⟨v,a',g1,g2,VR.mono (aE.le_refl S) hext _ _ g3,g4⟩
 ·intro g z hg;obtain⟨a',len,cap,g1,g2,g3,g4⟩:=H2.free g z hg;refine⟨a',len,cap,g1,g2,g3,g4.imp id ?_⟩;rintro⟨sz,k,off,y,k1,k2,k3,k4,k5,k6⟩;exact⟨sz,k,off,y,k1,k2,k3,k4,by rw[hω k (by rw[k5];simp)];exact k5,k6⟩
 ·intro b hb;unfold cY at hb;split at hb
  ·rename_i mP;subst mP;exact⟨.inr H.size,by simp⟩
  ·rename_i mP;exact⟨(H2.mine b hb).1.of_eq (by unfold cY;rw[if_neg mP]),(H2.mine b hb).2⟩
omit [Dr]in
theorem bX(w:World)(b:Nat)(o:Obj){k:Nat}(h:k≠b):(cy w b o).heap[k]? = w.heap[k]?:=by
 simp[cy,Qr h]
omit [Dr]in
theorem i8{w:World}{b:Nat}(o:Obj)(h:b<w.heap.size):(cy w b o).heap[b]? = some o:=by
 simp[cy,h]
theorem FR.turnM(H:FR c N U e h a w S β γ lam ω){l b clock clock':Nat}{es es':List AV}{ents ents':Array MapEntry}(hl:h[l]? = some [.tup es])(hb:β[l]? = some (b,0))(hw:w.heap[b]? = some (.map ents clock))(he:iJ S β es' ents'.toList)(hst:kd ents'.toList clock')(hle:es.length<=es'.length)(hborn:es'.length=es.length->clock'=clock/\ents'.toList.map (·.born)=ents.toList.map (·.born)):
  FR c N U e (h.set l [.tup es']) a (cy w b (.map ents' clock')) S β γ lam ω:=by
 obtain⟨ents0,clock0,h1,_,_,h3,h5⟩:=H.heap.mapRow hl hb;rw[hw]at h1;simp only[NB,Obj.map.injEq]at h1;obtain⟨rfl,rfl⟩:=h1;have hbw:b<w.heap.size:=(NT.1 hw).1;have hlt:l<h.length:=by
  rcases N7 l h.length with h'|h'
  ·exact h'
  ·rw[NX h']at hl;simp at hl
 have hωb:∀k,ω k≠.heap l->k≠b:=fun k hk=>by rintro rfl;exact hk h3
 have hother:∀k,ω k≠.heap l->(cy w b (.map ents' clock')).heap[k]? = w.heap[k]?:=fun k hk=>bX w b _ (hωb k hk);have hg:Gro w (cy w b (.map ents' clock')):=⟨by simp[cy],rfl,rfl,rfl,fun _=>NL _⟩;refine⟨fun k o v hv=>?_,H.gro.trans hg,fun k hk hE=>?_,H.le,H.ext,by simp[H.hlen],?_,H.tsz,H.slots,H.grps,?_,?_,fun k hk=>⟨(H.mine k hk).1,by simpa [cy]using(H.mine k hk).2⟩,H.used⟩
 ·have hkb:k≠b:=by rintro rfl;rw[h5]at hv;cases hv
  rw[cell_of_heap (bX w b _ hkb)];exact H.wf k o v hv
 ·have hkb:k≠b:=by
   rintro rfl
   have:=(H.mine k (by rw[h3];simp)).1.low
   rcases this with h|h
   ·exact hE h
   ·omega
  have:=H.keep k hk hE
  exact⟨by rw[bX w b _ hkb];exact this.1,this.2⟩
 ·intro j ds hj hd;rw[OP]at hj;split at hj
  ·rename_i hlj;subst hlj;simp only[NB]at hj;subst hj;exact .inr ⟨b,hb,h3,h5,.inl ⟨es',rfl,ents',clock',i8 _ hbw,he,hst⟩⟩
  ·rename_i hlj;rcases H.heap j ds hj hd with⟨k,x,k1,k2,k3,k4,k5⟩|⟨k,k1,k2,k3,k4⟩
   ·have hk:=hother k (by rw[k3];simp only[Qa,Owner.heap.injEq];exact fun h=>hlj h.symm);exact .inl ⟨k,x,k1,k2.of_eq hk,k3,k4,k5.1,fun t ht=>by obtain⟨z,hz⟩:=k5.2 t ht;exact⟨z,hk.trans hz⟩⟩
   ·have hk:=hother k (by rw[k2];simp only[Qa,Owner.heap.injEq];exact fun h=>hlj h.symm);refine .inr ⟨k,k1,k2,k3,k4.keepM (aE.le_refl S) (fm.refl β) hk fun i b' es2 hi he2=>?_⟩;rw[OP]at he2;split at he2
    ·rename_i hli;subst hli;simp only[NB,O3,AV.tup.injEq,PY]at he2;subst he2;rw[hb]at hi;simp only[NB,OG,PY]at hi;subst hi;refine⟨es,hl,hle,fun hh ents2 clock2 h2=>?_⟩;rw[hw]at h2;simp only[NB,Obj.map.injEq]at h2;obtain⟨rfl,rfl⟩:=h2;exact⟨ents',by rw[i8 _ hbw,(hborn hh).1],(hborn hh).2⟩
    ·rename_i hli;refine⟨es2,he2,NL _,fun _ ents2 clock2 h2=>⟨ents2,?_,rfl⟩⟩;obtain⟨_,_,_,_,_,g,_⟩:=H.heap.mapRow he2 hi;rw[hother b' (by rw[g];simp only[Qa,Owner.heap.injEq];exact fun h=>hli h.symm)];exact h2
 ·intro B n hB;obtain⟨k1,k2,k3,k,z,k4,k5,k6,k7,k8⟩:=H.lblk B n hB;exact⟨k1,k2,k3,k,z,k4,k5.of_eq (hother k (by rw[k6];simp)),k6,k7,k8⟩
 ·intro g z hg;obtain⟨a',len,cap,g1,g2,g3,g4⟩:=H.free g z hg;refine⟨a',len,cap,g1,g2,g3,g4.imp id ?_⟩;rintro⟨sz,k,off,z',k1,k2,k3,k4,k5,k6⟩;exact⟨sz,k,off,z',k1,k2,k3.of_eq (hother k (by rw[k5];simp)),k4,k5,k6⟩
theorem zB(H:FR c N U e h a w S β γ lam ω)(hd:∀t,o.dst=some t->t<N){t:TypeId}(ho:o.op= .makeMap t none):After P c N (UG U gid) (bi e o.dst (.dyn ky .ofV) h) o a w:=by
 obtain⟨ω',F,hnew⟩:=H.newM;have hrun:(execOp a.eval o).run P w= .ok (.value (.map (some w.heap.size))) (w.alloc (.map #[] 0)):=by
  simp[execOp,ho,Instr.makeMap]
 refine After.val hrun (Np ⟨_,_,γ,lam,ω',F.setV hd ?_⟩);simp only[VR];exact⟨_,hnew,rfl,rfl⟩
theorem Ca(hT:TOK P cx.T)(H:FR c N U e h a w S β γ lam ω)(hd:∀t,o.dst=some t->t<N){t:TypeId}{x i:Operand}{ok:Bool}(ho:o.op= .lookup t x i ok)(hx:∀t,x= .tmp t->t<1000)(hi:∀t,i= .tmp t->t<1000)(hr:bi e o.dst (.dyn (gQ cx.T t (opnd e x) (opnd e i) ok) .ofV) h≠.fail):After P c N (UG U gid) (bi e o.dst (.dyn (gQ cx.T t (opnd e x) (opnd e i) ok) .ofV) h) o a w:=by
 have hvx:=bl H x hx;have hvi:=bl H i hi;simp only[bi,ae,M.pure]at hr |-;unfold gQ at hr |-;cases hes:jj h (opnd e x)with
 |none=>rw[hes]at hr;exact absurd rfl hr
 | some es=>
  rw[hes]at hr;simp only at hr |-;cases hl:ly cx.T t es (opnd e i) ok with
  |none=>rw[hl]at hr;exact absurd rfl hr
  | some r=>
   have key:qA P w S β (Instr.lookup t (a.eval x) (a.eval i) ok) r:=by
    unfold jj at hes;split at hes
    ·rename_i l hq;split at hes
     ·rename_i es' hh;simp only[NB]at hes;subst hes;rw[hq]at hvx;simp only[VR]at hvx;obtain⟨⟨b,n⟩,hb,h0,hv⟩:=hvx;simp only at h0;subst h0;obtain⟨ents,clock,g1,g2,_⟩:=H.heap.mapRow hh hb;exact look_ok hT hl hvi g2 (.inr ⟨b,clock,hv,g1⟩)
     ·cases hes
    ·rename_i hq;simp only[NB]at hes;subst hes;rw[hq]at hvx;simp only[VR]at hvx;exact look_ok hT hl hvi (ents:=#[]) ⟨rfl,fun i e x he=>by simp at he⟩ (.inl ⟨hvx,rfl⟩)
    ·cases hes
   obtain⟨v,h1,h2⟩:=key;exact After.val (v:=v) (w':=w) (by simp only[execOp,ho,Sem.run_bind,h1,Result.andThen_ok,Sem.run_pure]) (Np ⟨S,β,γ,lam,ω,H.setV hd h2⟩)
theorem Fi(hT:TOK P cx.T)(H:FR c N U e h a w S β γ lam ω){t:TypeId}{m k x:Operand}(ho:o.op= .mapUpdate t m k x\/o.op= .insert t m k x)(hm:∀t,m= .tmp t->t<1000)(hk:∀t,k= .tmp t->t<1000)(hx:∀t,x= .tmp t->t<1000)(hr:bi e o.dst (lE cx e o.dst t m k x) h≠.fail):After P c N (UG U gid) (bi e o.dst (lE cx e o.dst t m k x) h) o a w:=by
 have hvm:=bl H m hm;have hvk:=bl H k hk;have hvx:=bl H x hx;unfold lE at hr |-;cases hdst:o.dst with
 |some d=>rw[hdst]at hr;exact absurd rfl hr
 | none =>
  rw[hdst]at hr;simp only[bi,ae,M.pure]at hr |-;unfold r5 at hr |-;cases hmt:f5 cx.T t with
  |none=>rw[hmt]at hr;exact absurd rfl hr
  | some q=>
   obtain⟨kt,et⟩:=q;rw[hmt]at hr;simp only at hr |-;cases hck:wi cx.T 20 kt (opnd e k)with
   |false=>rw[hck]at hr;exact absurd rfl hr
   | true=>
    rw[hck]at hr;simp only[NF]at hr |-;cases hq:opnd e m with
    | mp l=>
     rw[hq]at hr hvm;simp only at hr |-;cases hh:h[l]? with
     |none=>rw[hh]at hr;exact absurd rfl hr
     | some cs=>
      rw[hh]at hr
      match cs,hh,hr with
      | [.tup es],hh,hr=>
       simp only at hr |-;cases hp:vj cx.T kt es (opnd e k) (opnd e x)with
       |none=>rw[hp]at hr;exact absurd rfl hr
       |some es'=>
        simp only[VR]at hvm;obtain⟨⟨b,n⟩,hb,h0,hv⟩:=hvm;simp only at h0;subst h0;obtain⟨ents,clock,g1,g2,g3,_⟩:=H.heap.mapRow hh hb;obtain⟨ents',clock',k1,k2,k3,k4,k5⟩:=Fh hT hmt hck hp hvk hvx g2 g3 g1;refine After.skip (w':=cy w b (.map ents' clock')) hdst ?_ ?_
        ·rcases ho with ho|ho<;>simp only[execOp,ho,hv,Sem.run_bind,k1,Result.andThen_ok,Sem.run_pure]
        ·exact Np ⟨_,_,_,_,_,H.turnM hh hb g1 k2 k3 k4 k5⟩
    |_=>rw[hq]at hr;exact absurd rfl hr
end
end Go.Av
namespace Go.Av
variable [Dr]
section
variable {c:Entry} {N:Nat} {U:Nat->Prop} {e:Env} {h:Hp} {a:Act} {w:World} {S:aE} {β:List bT} {γ:Nat->Value} {lam:Nat->Option Nat} {ω:Nat->Owner} {P:Program} {cx:Cx} {gid:Nat} {o:Oper}
omit [Dr]in
theorem dY{α:Type}{l:List α}{i:Nat}{x:α}(h:l[i]? = some x):i<l.length:=(NO.1 h).1
theorem FR.newO(H:FR c N U e h a w S β γ lam ω)(ob:Obj)(cs:List AV)(_hcs:∀t,cs≠[.tup t])(hob:pY S (β++[(w.heap.size,0)]) (w.alloc ob) (h++[cs]) w.heap.size cs):
  ∃ω',FR c N U e (h++[cs]) a (w.alloc ob) S (β++[(w.heap.size,0)]) γ lam ω'/\(β++[(w.heap.size,0)])[h.length]? = some (w.heap.size,0):=by
 have H2:=H.allocO ob;have hext:fm β (β++[(w.heap.size,0)]):=fun l b hb=>by
  rw[NJ (dY hb)];exact hb
 have hnew:(β++[(w.heap.size,0)])[h.length]? = some (w.heap.size,0):=by rw[<- H.hlen];simp
 have hωn:ω w.heap.size= .no:=by
  cases ho:ω w.heap.size with
  |no=>rfl
  |_=>have:=(H.mine w.heap.size (by rw[ho];simp)).2;omega
 have hω:∀b,ω b≠.no->cY ω w.heap.size (.heap h.length) b=ω b:=fun b hb=>by
  unfold cY;rw[if_neg];rintro rfl;exact hb hωn
 refine⟨cY ω w.heap.size (.heap h.length),⟨H2.wf,H2.gro,H2.keep,H2.le,fm.trans H2.ext hext,by simp[H.hlen],?_,H2.tsz,?_,H2.grps,?_,?_,?_,H2.used⟩,hnew⟩
 ·intro l cs' hl hne;rcases N7 l h.length with hlt|hge
  ·rw[NJ hlt]at hl;rcases H2.heap l cs' hl hne with⟨b,x,k1,k2,k3,k4,k5⟩|⟨b,k1,k2,k3,k4⟩
   ·exact .inl ⟨b,x,hext _ _ k1,k2,by rw[hω b (by rw[k3];simp)];exact k3,k4.mono (aE.le_refl S) hext,k5⟩
   ·refine .inr ⟨b,hext _ _ k1,by rw[hω b (by rw[k2];simp)];exact k2,k3,k4.keep (aE.le_refl S) hext rfl fun j b' es hj he=>?_⟩;have hjl:j<h.length:=by
     rw[<- H.hlen];exact dY hj
    rw[NJ hjl]at he;exact⟨he,rfl⟩
  ·rw[N9 hge]at hl;have hlz:l=h.length:=by
    have:=dY hl
    simp at this;omega
   subst hlz;simp only[P0,Od,NB]at hl;subst hl;exact .inr ⟨w.heap.size,hnew,by simp[cY],fun o=>H.wf.none (NL _) o,hob⟩
 ·intro t' ht'
  have:=H2.slots t' ht'
  cases hv:(e.get t').v with
  |val av=>rw[hv]at this;exact VR.mono (aE.le_refl S) hext _ _ this
  |loc B off=>rw[hv]at this;exact this
 ·intro B n hB;obtain⟨h1,h2,h3,b,y,h4,h5,h6,h7,h8⟩:=H2.lblk B n hB;refine⟨h1,h2,h3,b,y,h4,h5,by rw[hω b (by rw[h6];simp)];exact h6,h7,fun i hi=>?_⟩;obtain⟨v,a',g1,g2,g3,g4⟩:=h8 i hi;exact⟨v,a',g1,g2,VR.mono (aE.le_refl S) hext _ _ g3,g4⟩
 ·intro g z hg;obtain⟨a',len,cap,g1,g2,g3,g4⟩:=H2.free g z hg;refine⟨a',len,cap,g1,g2,g3,g4.imp id ?_⟩;rintro⟨sz,k,off,y,k1,k2,k3,k4,k5,k6⟩;exact⟨sz,k,off,y,k1,k2,k3,k4,by rw[hω k (by rw[k5];simp)];exact k5,k6⟩
 ·intro b hb;unfold cY at hb;split at hb
  ·rename_i mP;subst mP;exact⟨.inr H.size,by simp⟩
  ·rename_i mP;exact⟨(H2.mine b hb).1.of_eq (by unfold cY;rw[if_neg mP]),(H2.mine b hb).2⟩
omit [Dr]in
theorem eE.iterRow(H:eE S β w ω h){l b:Nat}{cs:List AV}(hl:h[l]? = some cs)(hne:cs≠[])(hcs:∀t,cs≠[.tup t])(hb:β[l]? = some (b,0)):CL β w h b cs/\ω b= .heap l/\∀o,S b o=none:=by
 rcases H l _ hl hne with⟨b',x,k1,k2,k3,k4,k5,_⟩|⟨b',k1,k2,k3,k4⟩
 ·rw[hb]at k1;simp only[NB,OG]at k1;have h2:=k4.length;have h3:x.toList.length=0:=by rw[OD];exact k1.2.symm
  rw[Pb,h3,Nat.min_zero]at h2;exact absurd (PW.1 h2.symm) hne
 ·rw[hb]at k1;simp only[NB,OG,PY]at k1;subst k1;rcases k4 with⟨es,h1,_⟩|k4
  ·exact absurd h1 (hcs es)
  ·exact⟨k4,k2,k3⟩
theorem FR.turnI(H:FR c N U e h a w S β γ lam ω){l b:Nat}{cs cs':List AV}(ob:Obj)(hl:h[l]? = some cs)(hne:cs≠[])(hcs0:∀t,cs≠[.tup t])(hcs:∀t,cs'≠[.tup t])(hb:β[l]? = some (b,0))(hob:pY S β (cy w b ob) (h.set l cs') b cs'):FR c N U e (h.set l cs') a (cy w b ob) S β γ lam ω:=by
 obtain⟨hI,h3,h5⟩:=H.heap.iterRow hl hne hcs0 hb;have hbw:b<w.heap.size:=pY.lt (S:=S) (.inr hI);have hlt:=dY hl;have hωb:∀k,ω k≠.heap l->k≠b:=fun k hk=>by rintro rfl;exact hk h3
 have hother:∀k,ω k≠.heap l->(cy w b ob).heap[k]? = w.heap[k]?:=fun k hk=>bX w b _ (hωb k hk);have hg:Gro w (cy w b ob):=⟨by simp[cy],rfl,rfl,rfl,fun _=>NL _⟩;refine⟨fun k o v hv=>?_,H.gro.trans hg,fun k hk hE=>?_,H.le,H.ext,by simp[H.hlen],?_,H.tsz,H.slots,H.grps,?_,?_,fun k hk=>⟨(H.mine k hk).1,by simpa [cy]using(H.mine k hk).2⟩,H.used⟩
 ·have hkb:k≠b:=by rintro rfl;rw[h5]at hv;cases hv
  rw[cell_of_heap (bX w b _ hkb)];exact H.wf k o v hv
 ·have hkb:k≠b:=by
   rintro rfl
   have:=(H.mine k (by rw[h3];simp)).1.low
   rcases this with h|h
   ·exact hE h
   ·omega
  have:=H.keep k hk hE
  exact⟨by rw[bX w b _ hkb];exact this.1,this.2⟩
 ·intro j ds hj hd;rw[OP]at hj;split at hj
  ·rename_i hlj;subst hlj;simp only[NB]at hj;subst hj;exact .inr ⟨b,hb,h3,h5,hob⟩
  ·rename_i hlj;rcases H.heap j ds hj hd with⟨k,x,k1,k2,k3,k4,k5⟩|⟨k,k1,k2,k3,k4⟩
   ·have hk:=hother k (by rw[k3];simp only[Qa,Owner.heap.injEq];exact fun h=>hlj h.symm);exact .inl ⟨k,x,k1,k2.of_eq hk,k3,k4,k5.1,fun t ht=>by obtain⟨z,hz⟩:=k5.2 t ht;exact⟨z,hk.trans hz⟩⟩
   ·have hk:=hother k (by rw[k2];simp only[Qa,Owner.heap.injEq];exact fun h=>hlj h.symm);refine .inr ⟨k,k1,k2,k3,k4.keep (aE.le_refl S) (fm.refl β) hk fun i b' es2 hi he2=>?_⟩;rw[OP]at he2;split at he2
    ·rename_i hli;subst hli;simp only[NB]at he2;exact absurd he2 (hcs es2)
    ·rename_i hli;refine⟨he2,?_⟩;obtain⟨_,_,_,_,_,g,_⟩:=H.heap.mapRow he2 hi;exact hother b' (by rw[g];simp only[Qa,Owner.heap.injEq];exact fun h=>hli h.symm)
 ·intro B n hB;obtain⟨k1,k2,k3,k,z,k4,k5,k6,k7,k8⟩:=H.lblk B n hB;exact⟨k1,k2,k3,k,z,k4,k5.of_eq (hother k (by rw[k6];simp)),k6,k7,k8⟩
 ·intro g z hg;obtain⟨a',len,cap,g1,g2,g3,g4⟩:=H.free g z hg;refine⟨a',len,cap,g1,g2,g3,g4.imp id ?_⟩;rintro⟨sz,k,off,z',k1,k2,k3,k4,k5,k6⟩;exact⟨sz,k,off,z',k1,k2,k3.of_eq (hother k (by rw[k5];simp)),k4,k5,k6⟩
theorem Fl(hT:TOK P cx.T)(H:FR c N U e h a w S β γ lam ω)(hd:∀t,o.dst=some t->t<N){t:TypeId}{x:Operand}(ho:o.op= .range t x)(hx:∀t,x= .tmp t->t<1000)(hr:bi e o.dst (.dyn (kE cx.T t (opnd e x)) .ofV) h≠.fail):After P c N (UG U gid) (bi e o.dst (.dyn (kE cx.T t (opnd e x)) .ofV) h) o a w:=by
 have hvx:=bl H x hx;simp only[bi,ae,M.pure]at hr |-;unfold kE at hr |-;cases hm:f5 cx.T t with
 |none=>rw[hm]at hr;exact absurd rfl hr
 | some q=>
  obtain⟨kt,et⟩:=q;have hu:=uW hT hm;rw[hm]at hr;simp only at hr |-;cases hq:opnd e x with
  | mp l=>
   rw[hq]at hr hvx;simp only at hr |-;cases hh:h[l]? with
   |none=>rw[hh]at hr;exact absurd rfl hr
   | some cs=>
    rw[hh]at hr
    match cs,hh,hr with
    | [.tup es],hh,hr=>
     simp only at hr |-;simp only[VR]at hvx;obtain⟨⟨b,n⟩,hb,h0,hv⟩:=hvx;simp only at h0;subst h0;obtain⟨ents,clock,g1,g2,g3,_⟩:=H.heap.mapRow hh hb;have hbw:b<w.heap.size:=(NT.1 g1).1;have hl:=dY hh;have hext:fm β (β++[(w.heap.size,0)]):=fun l b hb=>by rw[NJ (dY hb)];exact hb
     obtain⟨ω',F,hnew⟩:=H.newO (.mapIter (some b) clock #[] clock) [.tup [],.mp l,.int .i64 (es.length:Nat),jC (List.range es.length),.any] (by simp)
      (.inr (.inl ⟨l,es.length,List.range es.length,b,clock,#[],clock,.any,rfl,hext _ _ hb,NL _,heap_alloc_new w _,.inl rfl,fun es2 he2=>by
       rw[NJ hl,hh]at he2;simp only[NB,O3,AV.tup.injEq,PY]at he2;subst he2;refine⟨NL _,fun _=>⟨ents,clock,by rw[alloc_old w _ hbw];exact g1,g3.1,?_,rfl,fun c hc=>by cases hc⟩⟩;unfold cU;rw[<- g2.1];symm;rw[Qx];intro i hi;have hi':i<ents.toList.length:=by rw[<- g2.1];simpa using hi
       rw[NH hi'];simp⟩))
     have hrun:(execOp a.eval o).run P w= .ok (.value (.pointer (some ⟨w.heap.size,0,none⟩))) (w.alloc (.mapIter (some b) clock #[] clock)):=by
      simp[execOp,ho,hv,Instr.range,run_underlying hu,nY g1]
     refine After.val hrun (Np ⟨_,_,γ,lam,ω',F.setV hd ?_⟩);simp only[VR];exact⟨_,hnew,rfl,rfl⟩
  | nilm=>
   rw[hq]at hvx;simp only[VR]at hvx;simp only;obtain⟨ω',F,hnew⟩:=H.newO (.mapIter none 0 #[] 0) [.tup [],.nilm] (by simp) (.inr (.inr ⟨rfl,0,#[],0,heap_alloc_new w _⟩));have hrun:(execOp a.eval o).run P w= .ok (.value (.pointer (some ⟨w.heap.size,0,none⟩))) (w.alloc (.mapIter none 0 #[] 0)):=by
    simp[execOp,ho,hvx,Instr.range,run_underlying hu]
   refine After.val hrun (Np ⟨_,_,γ,lam,ω',F.setV hd ?_⟩);simp only[VR];exact⟨_,hnew,rfl,rfl⟩
  |_=>rw[hq]at hr;exact absurd rfl hr
omit [Dr]in
theorem mM{x:MapEntry}:{l:List MapEntry} ->{c:Nat} ->l.Pairwise (fun x y=>x.born≠y.born)->l[c]? = some x->l.find? (·.born== x.born)=some x
 |[],_,_,h=>by simp at h
 | y:: l,c,hp,h=>by
  obtain⟨h1,h2⟩:=O5.1 hp;cases c with
  |zero=>simp at h;subst h;simp
  |succ c=>
   have h':l[c]? = some x:=by simpa using h
   have hne:=h1 x (Ov h');rw[O9,Oh.2 hne];exact mM h2 h'
omit [Dr]in
theorem i7{r:Nat}{ob:Obj}(hb:w.heap[r]? = some ob)(hc:∀c t f,ob≠.cells c t f):(getObj r).run P w= .ok ob w:=by
 simp only[getObj,Sem.run,hb]
omit [Dr]in
theorem mK{x:AV}{h:Hp}(hr:gm x h≠.fail):∃l m n p cu es k u,x= .it l/\h[l]? = some [.tup [],.mp m,.int .i64 n,p,.int .i64 cu]/\h[m]? = some [.tup es]/\(es.length:Int)=n/\es[cu.toNat]? = some (.tup [k,u])/\gm x h= .ok (.tup [k,u]) h:=by
 unfold gm at hr |-;split at hr
 ·rename_i l;split at hr
  ·rename_i m n p cu hl;split at hr
   ·rename_i es hm;split at hr
    ·rename_i hn;split at hr
     ·rename_i k u he;exact⟨l,m,n,p,cu,es,k,u,rfl,hl,hm,hn,he,by simp only[NE hn]⟩
     ·exact absurd rfl hr
    ·exact absurd rfl hr
   ·exact absurd rfl hr
  ·exact absurd rfl hr
 ·exact absurd rfl hr
theorem En(H:FR c N U e h a w S β γ lam ω)(hd:∀t,o.dst=some t->t<N){x:Operand}(ho:o.op= .entry x)(hx:∀t,x= .tmp t->t<1000)(hr:bi e o.dst (.dyn (gm (opnd e x)) .ofV) h≠.fail):After P c N (UG U gid) (bi e o.dst (.dyn (gm (opnd e x)) .ofV) h) o a w:=by
 have hvx:=bl H x hx;simp only[bi,ae,M.pure]at hr |-;obtain⟨l,m,n,p,cu,es,k,u,hq,hh,hm,hn,he,hok⟩:=mK (x:=opnd e x) (h:=h) (fun hf=>by rw[hf]at hr;exact hr rfl);rw[hok];simp only;rw[hq]at hvx;simp only[VR]at hvx;obtain⟨⟨b,z⟩,hb,h0,hv⟩:=hvx;simp only at h0;subst h0;obtain⟨hI,_,_⟩:=H.heap.iterRow hh (by simp) (by simp) hb;rcases hI with⟨l',n',ps,b',since,seen,last,cur,h1,h2,h3,h4,hcu,h5⟩|⟨h1,_⟩
 ·simp only[O3,AV.mp.injEq,AV.int.injEq,QA,PY]at h1;obtain⟨rfl,rfl,rfl,rfl⟩:=h1;rcases hcu with hcu|⟨ci,hcu⟩
  ·cases hcu
  simp only[AV.int.injEq,QA]at hcu;subst hcu;obtain⟨_,k2⟩:=h5 es hm;obtain⟨ents,clock,j1,j2,j3,j4,j5⟩:=k2 (by omega);obtain⟨y,hy,hs⟩:=j5 ci rfl;obtain⟨ents0,clock0,g1,g2,g3,_⟩:=H.heap.mapRow hm h2;rw[j1]at g1;simp only[NB,Obj.map.injEq]at g1;obtain⟨rfl,rfl⟩:=g1;subst j4;have hf:ents.find? (·.born== y.born)=some y:=by rw[<- Array.find?_toList];exact mM g3.2 hy
  have hrun:(execOp a.eval o).run P w= .ok (.value (.tuple #[y.key,y.val])) w:=by
   simp[execOp,ho,hv,Instr.entry,i7 h4 (by simp),hs,i7 j1 (by simp),hf]
  simp only[PI]at he;obtain⟨k',v',hkv,hk,hvv⟩:=g2.2 ci _ y he hy;simp only[AV.tup.injEq,O3,PY]at hkv;obtain⟨rfl,rfl⟩:=hkv;refine After.val hrun (Np ⟨_,_,γ,lam,ω,H.setV hd ?_⟩);simp only[VR];exact⟨[y.key,y.val],rfl,by simp only[bC];exact⟨_,_,rfl,hk,_,_,rfl,hvv,rfl⟩⟩
 ·simp at h1
omit [Dr]in
theorem pK{ents:List MapEntry}{seen:Array Nat}{i:Nat}:i∈cU ents seen↔∃x,ents[i]? = some x/\seen.contains x.born=false:=by
 unfold cU;rw[OS];constructor
 ·rintro⟨_,h⟩;split at h
  ·rename_i x hx;exact⟨x,hx,by simpa using h⟩
  ·cases h
 ·rintro⟨x,hx,hs⟩;exact⟨by simpa using dY hx,by rw[hx];simpa using hs⟩
omit [Dr]in
theorem born_inj{ents:List MapEntry}(h:ents.Pairwise fun x y=>x.born≠y.born){i j:Nat}{x y:MapEntry}(hi:ents[i]? = some x)(hj:ents[j]? = some y)(hb:x.born=y.born):i=j:=by
 rcases QG i j with hl|hl|hl
 ·obtain⟨h1,rfl⟩:=NO.1 hi;obtain⟨h2,rfl⟩:=NO.1 hj;exact absurd hb (PO.1 h i j h1 h2 hl)
 ·exact hl
 ·obtain⟨h1,rfl⟩:=NO.1 hi;obtain⟨h2,rfl⟩:=NO.1 hj;exact absurd hb.symm (PO.1 h j i h2 h1 hl)
omit [Dr]in
theorem nJ{ents:List MapEntry}(hp:ents.Pairwise fun x y=>x.born≠y.born){seen:Array Nat}{i:Nat}{x:MapEntry}(hi:ents[i]? = some x):
  cU ents (seen.push x.born)=(cU ents seen).filter fun r=>!(Nat.beq r i):=by
 unfold cU;rw[List.filter_filter];refine Qj fun r hr=>?_;have hr':r<ents.length:=by simpa using hr
 rw[NH hr'];show (!(seen.push x.born).contains ents[r].born)=(!(Nat.beq r i)&&!seen.contains ents[r].born);have hc:(seen.push x.born).contains ents[r].born=(seen.contains ents[r].born||ents[r].born== x.born):=by
  rw[Pa];simp
 rw[hc];have hri:(ents[r].born== x.born)=Nat.beq r i:=by
  cases hb:Nat.beq r i with
  |true=>
   have:=NR hb
   subst this;rw[NH hr']at hi;simp only[NB]at hi;rw[hi];simp
  |false=>
   have hne:r≠i:=fun hh=>by subst hh;simp at hb
   exact Oh.2 fun hh=>hne (born_inj hp (NH hr') hi hh)
 rw[hri,Bool.not_or,Bool.and_comm]
omit [Dr]in
theorem t7(ty:TypeId){b bm since last clock:Nat}{seen:Array Nat}{es:Array MapEntry}(hb:w.heap[b]? = some (.mapIter (some bm) since seen last))(hm:w.heap[bm]? = some (.map es clock))(hold:∀x∈es.toList,x.born<since)(hsc:since<=last):
  (cU es.toList seen=[]/\(Instr.next (.pointer (some ⟨b,0,none⟩)) false ty).run P w= .ok (.tuple #[.bool false]) w)\/
  ∃i x w1,i∈cU es.toList seen/\es.toList[i]? = some x/\(w1=w\/w1=w.drew)/\(Instr.next (.pointer (some ⟨b,0,none⟩)) false ty).run P w= .ok (.tuple #[.bool true,x.key,x.val]) (cy w1 b (.mapIter (some bm) since (seen.push x.born) clock)):=by
 have htest:(!seen.isEmpty&&!es.isEmpty&&es.all (fun x=>decide (x.born >= last)))=false:=by
  cases he:es.isEmpty with
  |true=>simp
  | false=>
   have hall:es.all (fun x=>decide (x.born >= last))=false:=by
    rw[O2];intro h;rw[Qp]at h;have h0:0<es.size:=by
     rcases ON es.size with h0|h0
     ·simp[Array.isEmpty,h0]at he
     ·exact h0
    have h1:=h _ (Array.getElem_mem h0);have h2:=hold es[0] (by simp);simp at h1;omega
   simp[hall]
 have hleft:∀x,x∈(es.filter fun e=>!seen.contains e.born).toList->∃i,i∈cU es.toList seen/\es.toList[i]? = some x:=fun x hx=>by
  simp only[Qy,OS]at hx;obtain⟨i,hi⟩:=P4 hx.1;exact⟨i,pK.2 ⟨x,hi,by simpa using hx.2⟩,hi⟩
 have hnone:(es.filter fun e=>!seen.contains e.born).size=0->cU es.toList seen=[]:=fun h0=>by
  rw[PX];intro i hi;obtain⟨x,hx,hs⟩:=pK.1 hi;have:x∈(es.filter fun e=>!seen.contains e.born).toList:=by
   simp only[Qy,OS];exact⟨Ov hx,by simpa using hs⟩
  rw[Qu h0]at this;simp at this
 have hmem:∀x∈(es.filter fun e=>!seen.contains e.born).toList,x.born<since:=fun x hx=>by
  simp only[Qy,OS]at hx;exact hold x hx.1
 simp only[Instr.next,getObj,Sem.run_bind,Sem.run,hb,hm,Result.andThen,htest,NC,NK];generalize (es.filter fun e=>!seen.contains e.born)=L at hleft hnone hmem |-;have e1:L.filter (fun x=>decide (x.born<since))=L:=Array.filter_eq_self.2 (fun x hx=>by simpa using hmem x (by simpa using hx));have e2:L.filter (fun x=>decide (x.born >= since))= #[]:=by
  rw[Array.filter_eq_empty_iff];intro x hx
  have:=hmem x (by simpa using hx)
  simp;omega
 simp only[e1,e2,Array.append_empty];by_cases h0:L.size=0
 ·left;refine⟨hnone h0,?_⟩;have:L= #[]:=Qu h0;subst this;simp[choose,Sem.run,Question.forced]
 ·right;have hne:L.isEmpty=false:=by simp[Array.isEmpty,h0]
  simp only[hne,NC,NK,Array.empty_append,Array.size_map];have hch:∃(j:Nat)(w1:World),j<L.size/\(w1=w\/w1=w.drew)/\(choose (Question.mapNext L.size)).run P w= .ok j w1:=by
   by_cases hf:L.size<=1
   ·exact⟨0,w,by omega,.inl rfl,by simp[choose,Sem.run,Question.forced,hf]⟩
   ·exact⟨_,w.drew,Nat.mod_lt _ (by omega),.inr rfl,by
     simp only[choose,Sem.run,Question.forced,Oa,hf,NK,Question.cut];rfl⟩
  obtain⟨j,w1,hj,hw1,hrun⟩:=hch;obtain⟨i,hi1,hi2⟩:=hleft L[j] (by simp);refine⟨i,L[j],w1,hi1,hi2,hw1,?_⟩;have hb1:w1.heap[b]? = some (.mapIter (some bm) since seen last):=by rcases hw1 with rfl|rfl<;>exact hb
  have hset:∀ob:Obj,(setObj b ob).run P w1= .ok () (cy w1 b ob):=fun ob=>by
   simp[setObj,Sem.run,hb1,cy]
  simp only[hrun,Array.getElem?_map,Og hj,Oo,Sem.run_bind,hset,Result.andThen];rfl
end
end Go.Av
namespace Go.Av
open Go
section
variable {F:Fence} {n:Nat} {P:Program} {w w':World} {ops:Array Oper} {rest:List Oper} {o:Oper} {a:Act} {Q:Exit->Act->World->Prop} {v:Value}
theorem jb(hg:o.guard=none)(m:Operand)(t:TypeId)(hop:o.op=Op.range t m)(hrun:(Instr.range t (a.eval m)).run P w= .ok v w')(hK:wpListIn F n P ops Q rest (a.put o.dst v) w'):wpListIn F n P ops Q (o:: rest) a w:=by
 refine wpListIn_plain hg fun K' hK'=>?_;unfold Oper.wpIn;refine⟨by simp[Oper.about,hop],?_⟩;rw[Oper.semAt_plain F _ _ (by rw[hop];intro c hc';cases hc')];simp[execOp,hop,hrun,Result.andThen];exact hK' _ _ hK
theorem fZ(hg:o.guard=none)(it:Operand)(hop:o.op=Op.next it false)(hrun:(Instr.next (a.eval it) false o.type).run P w= .ok v w')(hK:wpListIn F n P ops Q rest (a.put o.dst v) w'):wpListIn F n P ops Q (o:: rest) a w:=by
 refine wpListIn_plain hg fun K' hK'=>?_;unfold Oper.wpIn;refine⟨by simp[Oper.about,hop],?_⟩;rw[Oper.semAt_plain F _ _ (by rw[hop];intro c hc';cases hc')];simp[execOp,hop,hrun,Result.andThen];exact hK' _ _ hK
theorem oo(hg:o.guard=none)(it:Operand)(hop:o.op=Op.next it false){b bm since last clock:Nat}{seen:Array Nat}{es:Array MapEntry}(hit:a.eval it= .pointer (some ⟨b,0,none⟩))(hb:w.heap[b]? = some (.mapIter (some bm) since seen last))(hm:w.heap[bm]? = some (.map es clock))(hold:∀x∈es.toList,x.born<since)(hsc:since<=last)(hDone:cU es.toList seen=[]->wpListIn F n P ops Q rest (a.put o.dst (.tuple #[.bool false])) w)(hMore:∀i x w1,i∈cU es.toList seen->es.toList[i]? = some x->(w1=w\/w1=w.drew)->wpListIn F n P ops Q rest (a.put o.dst (.tuple #[.bool true,x.key,x.val])) (cy w1 b (.mapIter (some bm) since (seen.push x.born) clock))):
  wpListIn F n P ops Q (o:: rest) a w:=by
 rcases t7 (P:=P) o.type hb hm hold hsc with⟨i1,i2⟩|⟨i,u,w1,i1,i2,i3,i4⟩
 ·exact fZ hg it hop (by rw[hit];exact i2) (hDone i1)
 ·exact fZ hg it hop (by rw[hit];exact i4) (hMore i u w1 i1 i2 i3)
theorem iq(hg:o.guard=none)(m x:Operand)(t:TypeId)(ok:Bool)(hop:o.op=Op.lookup t m x ok)(hrun:(Instr.lookup t (a.eval m) (a.eval x) ok).run P w= .ok v w')(hK:wpListIn F n P ops Q rest (a.put o.dst v) w'):wpListIn F n P ops Q (o:: rest) a w:=by
 refine wpListIn_plain hg fun K' hK'=>?_;unfold Oper.wpIn;refine⟨by simp[Oper.about,hop],?_⟩;rw[Oper.semAt_plain F _ _ (by rw[hop];intro c hc';cases hc')];simp[execOp,hop,hrun,Result.andThen];exact hK' _ _ hK
theorem ir(hg:o.guard=none)(m x y:Operand)(t:TypeId)(hop:o.op=Op.mapUpdate t m x y)(hrun:(Instr.mapUpdate t (a.eval m) (a.eval x) (a.eval y)).run P w= .ok () w')(hK:wpListIn F n P ops Q rest (a.put o.dst undef) w'):wpListIn F n P ops Q (o:: rest) a w:=by
 refine wpListIn_plain hg fun K' hK'=>?_;unfold Oper.wpIn;refine⟨by simp[Oper.about,hop],?_⟩;rw[Oper.semAt_plain F _ _ (by rw[hop];intro c hc';cases hc')];simp[execOp,hop,hrun,Result.andThen];exact hK' _ _ hK
end
def kq(w:World)(b:Nat)(o:Obj):w.grownBy (cy w b o) (some b):=
 ⟨rfl,rfl,rfl,by simp[cy],fun k _ hk=>bX w b o (fun e=>hk (by rw[e]))⟩
def zo(w:World):w.grownBy w.drew none:=⟨rfl,rfl,rfl,NL _,fun _ _ _=>rfl⟩
def zT{P:Program}{w:World}{b bm since last:Nat}{seen:Array Nat}{es:Array MapEntry}{x:MapEntry}{i:Nat}(hb:w.heap[b]? = some (.mapIter (some bm) since (seen.push x.born) last))(hm:w.heap[bm]? = some (.map es last))(hst:kd es.toList last)(hi:es.toList[i]? = some x):
  (Instr.entry (.pointer (some ⟨b,0,none⟩))).run P w= .ok (.tuple #[x.key,x.val]) w:=by
 have hf:es.find? (·.born== x.born)=some x:=by rw[<- Array.find?_toList];exact mM hst.2 hi
 simp[Instr.entry,i7 hb (by simp),i7 hm (by simp),hf]
def wD{l:List Nat}(hn:l.Nodup){i:Nat}(hi:i∈l):l.Perm (i:: l.filter fun r=>!(Nat.beq r i)):=by
 have he:(l.filter fun r=>!(Nat.beq r i))=l.erase i:=by
  rw[hn.erase_eq_filter];refine Qj fun r _=>?_;cases hb:Nat.beq r i with
  |true=>have:=NR hb;subst this;simp
  | false => have:r≠i:=fun e=>by subst e;simp at hb
             simp[this]
 rw[he];exact List.perm_cons_erase hi
def sS(es:List MapEntry)(seen:Array Nat):(cU es seen).Nodup:=List.Nodup.sublist List.filter_sublist QN
def xp(es:List MapEntry):cU es #[]=List.range es.length:=by
 unfold cU;rw[Qx];intro i hi;have hi':i<es.length:=by simpa using hi
 rw[NH hi'];simp
def AO(w:World)(r b:Nat):Nat:=match w.heap[r]?,w.heap[b]? with
 |some (.mapIter _ _ seen _),some (.map es _)=>(cU es.toList seen).length
 |_,_=>0
end Go.Av
namespace Go.Av
def pj{α:Type}(a:R α)(b:Nat->R α):Prop:=(a≠.fail->∃N,∀n,N<=n->b n=a)/\∀n,b n≠.fail->b n=a
def aS{α:Type}(m:M α)(ms:Nat->M α):Prop:=∀h,pj (m h) fun n=>ms n h
def bz{α β:Type}(f:β->M α)(fs:Nat->β->M α):Prop:=∀x,aS (f x) fun n=>fs n x
def pj.const{α:Type}(a:R α):pj a fun _=>a:=⟨fun _=>⟨0,fun _ _=>rfl⟩,fun _ _=>rfl⟩
def aS.const{α:Type}(m:M α):aS m fun _=>m:=fun _=>.const _
def bz.const{α β:Type}(f:β->M α):bz f fun _=>f:=fun _=>.const _
def aS.bnd{α β:Type}{m:M α}{ms:Nat->M α}{f:α->M β}{fs:Nat->α->M β}(hm:aS m ms)(hf:bz f fs):aS (ae m f) fun n=>ae (ms n) (fs n):=by
 intro h;obtain⟨h1,h2⟩:=hm h
 (try dsimp only at h1 h2)
 refine⟨fun hne=>?_,fun n hne=>?_⟩
 ·have hne':m h≠.fail:=fun hf=>by simp only[Av.ae]at hne;rw[hf]at hne;exact hne rfl
  obtain⟨N,hN⟩:=h1 hne';cases hmh:m h with
  |fail=>exact absurd hmh hne'
  |pan v x=>
   refine⟨N,fun n hn=>?_⟩
   (try dsimp only)
   simp only[Av.ae];rw[hN n hn,hmh]
  |ok a x=>
   have hne2:f a x≠.fail:=fun hf=>by simp only[Av.ae]at hne;rw[hmh]at hne;exact hne hf
   obtain⟨N2,hN2⟩:=(hf a x).1 hne2;refine⟨max N N2,fun n hn=>?_⟩
   (try dsimp only)
   simp only[Av.ae];rw[hN n (by omega),hmh];exact hN2 n (by omega)
 ·(try dsimp only at hne |-)
  simp only[Av.ae]at hne |-;have hne':ms n h≠.fail:=fun hf=>by rw[hf]at hne;exact hne rfl
  rw[<- h2 n hne'];cases hmh:ms n h with
  |fail=>exact absurd hmh hne'
  |pan v x=>rfl
  |ok a x=>
   rw[hmh]at hne;exact (hf a x).2 n hne
def yz{α:Type}(m m':M α):Prop:=∀h,m h≠.fail->m h=m' h
def yz.lim{α:Type}{m m':M α}(h:yz m m'):aS m' fun n=>if n=0 then m else m':=by
 intro x;refine⟨fun _=>⟨1,fun n hn=>by(try dsimp only);rw[if_neg (by omega)]⟩,fun n hne=>?_⟩
 (try dsimp only at hne |-)
 by_cases h0:n=0
 ·rw[NE h0]at hne |-;exact h x hne
 ·rw[if_neg h0]
def aS.le{α:Type}{m:M α}{ms:Nat->M α}(h:aS m ms)(n:Nat):yz (ms n) m:=fun x hne=>(h x).2 n hne
section
variable {ρ:Type}
def bE(F:(List AV->M ρ)->List AV->M ρ)(Fs:Nat->(List AV->M ρ)->List AV->M ρ):Prop:=∀self selfs,bz self selfs->bz (F self) fun n=>Fs n (selfs n)
def ma(F:(List AV->M ρ)->List AV->M ρ):Prop:=bE F fun _=>F
def oq(fx:bq ρ)(fxs:Nat->bq ρ):Prop:=∀F Fs,bE F Fs->ma F->(∀n,ma (Fs n))->bz (fx F) fun n=>fxs n (Fs n)
def vP(fx:bq ρ):Prop:=oq fx fun _=>fx
theorem ma.mono{F:(List AV->M ρ)->List AV->M ρ}(hF:ma F){s s':List AV->M ρ}(h:∀vs,yz (s vs) (s' vs)):∀vs,yz (F s vs) (F s' vs):=by
 intro vs x hne;have hl:bz s' (fun n=>if n=0 then s else s'):=by
  intro vs x;refine⟨fun _=>⟨1,fun n hn=>?_⟩,fun n hne=>?_⟩
  ·(try dsimp only)
   rw[if_neg (by omega)]
  ·(try dsimp only at hne |-)
   by_cases h0:n=0
   ·rw[NE h0]at hne |-;exact h vs x hne
   ·rw[if_neg h0]
 have h0:=(hF s' _ hl vs x).2 0
 (try dsimp only at h0)
 rw[NE rfl]at h0;exact h0 hne
theorem oG{F:(List AV->M ρ)->List AV->M ρ}(hF:ma F):∀n vs,yz (dt n F vs) (dt (n+1) F vs)
 |0,_vs=>fun _x hne=>absurd rfl hne
 |n+1,vs=>hF.mono (oG hF n) vs
theorem yz.trans{α:Type}{a b c:M α}(h:yz a b)(g:yz b c):yz a c:=fun x hne=>by
 have:=h x hne
 rw[this];exact g x (this▸hne)
theorem yz.refl{α:Type}(a:M α):yz a a:=fun _ _=>rfl
theorem re{F:(List AV->M ρ)->List AV->M ρ}(hF:ma F){n m:Nat}(h:n<=m)(vs:List AV):yz (dt n F vs) (dt m F vs):=by
 induction m with
 | zero => have:n=0:=by omega
           subst this;exact .refl _
 |succ m ih=>
  by_cases hn:n=m+1
  ·subst hn;exact .refl _
  ·exact (ih (by omega)).trans (oG hF m vs)
open Classical in
noncomputable def aj(F:(List AV->M ρ)->List AV->M ρ)(vs:List AV):M ρ:=fun h=>if hx:∃n,dt n F vs h≠.fail then dt (Classical.choose hx) F vs h else .fail
theorem tf{b:Nat->R ρ}(hmono:∀n m,n<=m->b n≠.fail->b n=b m){a:R ρ}(ha:(∃n,b n≠.fail/\a=b n)\/(∀n,b n= .fail)/\a= .fail):pj a b:=by
 rcases ha with⟨n,hn,rfl⟩|⟨hn,rfl⟩
 ·refine⟨fun _=>⟨n,fun m hm=>(hmono n m hm hn).symm⟩,fun m hm=>?_⟩;rcases Nat.le_total n m with h|h
  ·exact (hmono n m h hn).symm
  ·exact hmono m n h hm
 ·exact⟨fun h=>absurd rfl h,fun n h=>absurd (hn n) h⟩
theorem gM{F:(List AV->M ρ)->List AV->M ρ}(hF:ma F):bz (aj F) fun n=>dt n F:=by
 intro vs h;refine tf (fun n m hnm hne=>re hF hnm vs h hne) ?_;unfold aj;by_cases hx:∃n,dt n F vs h≠.fail
 ·left;simp only[dif_pos hx];exact⟨_,Qs hx,rfl⟩
 ·right;simp only[dif_neg hx];exact⟨fun n=>Pj fun h=>hx ⟨n,h⟩,trivial⟩
theorem nu{F:(List AV->M ρ)->List AV->M ρ}{Fs:Nat->(List AV->M ρ)->List AV->M ρ}(h1:bE F Fs)(n:Nat):∀k vs,yz (dt k (Fs n) vs) (dt k F vs)
 |0,vs=>.refl _
 | k+1,vs=>by
  have ih:=nu h1 n k;have hl:bz (dt k F) fun m=>if m=n then dt k (Fs n)else dt k F:=by
   intro vs h;refine⟨fun _=>⟨n+1,fun m hm=>by(try dsimp only);rw[if_neg (by omega)]⟩,fun m hne=>?_⟩
   (try dsimp only at hne |-)
   by_cases hm:m=n
   ·rw[NE hm]at hne |-;exact ih vs h hne
   ·rw[if_neg hm]
  intro x hne
  have:=(h1 _ _ hl vs x).2 n
  (try dsimp only at this)
  rw[NE rfl]at this;exact this hne
theorem ln{F:(List AV->M ρ)->List AV->M ρ}{Fs:Nat->(List AV->M ρ)->List AV->M ρ}(h1:bE F Fs):∀k,bz (dt k F) fun n=>dt k (Fs n)
 |0=>fun _ _=>.const _
 |k+1=>h1 _ _ (ln h1 k)
theorem wG:oq (aj (ρ:=ρ)) fun n=>dt n:=by
 intro F Fs h1 hF hFs vs h;refine⟨fun hne=>?_,fun n hne=>?_⟩
 ·obtain⟨N,hN⟩:=(gM hF vs h).1 hne;have hN':=hN N (NL _)
  (try dsimp only at hN')
  obtain⟨N2,hN2⟩:=(ln h1 N vs h).1 (by rw[hN'];exact hne);refine⟨max N N2,fun n hn=>?_⟩;have h3:=hN2 n (by omega)
  (try dsimp only at h3 |-)
  rw[<- re (hFs n) (show N<=n by omega) vs h (by rw[h3,hN'];exact hne),h3,hN']
 ·(try dsimp only at hne |-)
  have h2:=nu h1 n n vs h hne;rw[h2];exact (gM hF vs h).2 n (by(try dsimp only);rw[<- h2];exact hne)
theorem Ex:vP (aj (ρ:=ρ)):=by
 intro F Fs h1 hF hFs vs h;refine⟨fun hne=>?_,fun n hne=>?_⟩
 ·obtain⟨N,hN⟩:=(gM hF vs h).1 hne;have hN':=hN N (NL _)
  (try dsimp only at hN')
  obtain⟨N2,hN2⟩:=(ln h1 N vs h).1 (by rw[hN'];exact hne);refine⟨N2,fun n hn=>?_⟩;have h3:=hN2 n hn
  (try dsimp only at h3 |-)
  have:=(gM (hFs n) vs h).2 N (by(try dsimp only);rw[h3,hN'];exact hne)
  (try dsimp only at this)
  rw[<- this,h3,hN']
 ·(try dsimp only at hne |-)
  obtain⟨N,hN⟩:=(gM (hFs n) vs h).1 hne;have hN':=hN N (NL _)
  (try dsimp only at hN')
  have h2:=nu h1 n N vs h (by rw[hN'];exact hne);rw[<- hN',h2];exact (gM hF vs h).2 N (by(try dsimp only);rw[<- h2,hN'];exact hne)
theorem uL(m:Nat):vP (dt (α:=ρ) m):=fun _F _Fs h1 _hF _hFs=>ln h1 m
theorem wH(m:Nat):oq (dt (α:=ρ) (m+1)) fun n=>if n=0 then dt m else dt (m+1):=by
 intro F Fs h1 hF hFs vs h;refine⟨fun hne=>?_,fun n hne=>?_⟩
 ·obtain⟨N,hN⟩:=(ln h1 (m+1) vs h).1 hne;refine⟨max N 1,fun n hn=>?_⟩
  (try dsimp only)
  rw[if_neg (by omega)];exact hN n (by omega)
 ·(try dsimp only at hne |-)
  by_cases h0:n=0
  ·rw[NE h0]at hne |-;exact ((nu h1 n m vs).trans (oG hF m vs)) h hne
  ·rw[if_neg h0]at hne |-;exact nu h1 n (m+1) vs h hne
end
end Go.Av
namespace Go.Av
def Cx.wc(cx:Cx)(call:FuncId->List AV->M AV):Cx:={ cx with call }
def iI(A:Act1)(As:Nat->Act1):Prop:=
 (∀n,As n=A)\/∃m ms sh,A= .dyn m sh/\(∀n,As n= .dyn (ms n) sh)/\aS m ms
section
variable {ρ:Type} {cx:Cx} {call:FuncId->List AV->M AV} {calls:Nat->FuncId->List AV->M AV}
theorem zJ(hc:∀f,bz (call f) fun n=>calls n f)(e:Env)(gid:Nat)(o:Oper)(c:Call):iI (fP (cx.wc call) e gid o c) fun n=>fP (cx.wc (calls n)) e gid o c:=by
 unfold fP;cases c.callee with
 |invoke r m=>exact .inl fun n=>rfl
 |builtin b=>cases b<;>exact .inl fun n=>rfl
 | value x=>
  have hv:iI (.dyn (cO call (opnd e x) (c.args.toList.map (opnd e))) .ofV) fun n=>.dyn (cO (calls n) (opnd e x) (c.args.toList.map (opnd e))) .ofV:=by
   refine .inr ⟨_,_,_,rfl,fun n=>rfl,?_⟩;unfold cO;split
   ·exact hc _ _
   ·exact aS.const _
  cases x with
  | func f=>
   have h0:iI (.dyn (call f (c.args.toList.map (pN (cn cx.ann.hb o.dst) e))) fun v=>match cx.own f with|some sz=>.own v gid (some sz)|none=>.ofV v) fun n=>.dyn (calls n f (c.args.toList.map (pN (cn cx.ann.hb o.dst) e))) fun v=>match cx.own f with|some sz=>.own v gid (some sz)|none=>.ofV v:=
    .inr ⟨_,_,_,rfl,fun n=>rfl,hc _ _⟩
   have key2:∀(b:Bool)(A B:Act1)(As Bs:Nat->Act1),iI A As->iI B Bs->iI (bif b then A else B) fun n=>bif b then As n else Bs n:=by
    intro b A B As Bs hA hB;cases b with
    |true=>exact hA
    |false=>exact hB
   have key:∀b:Bool,iI (bif b then .dyn (ae (call f (c.args.toList.map (opnd e))) vO) .ofV else .bad) fun n=>bif b then .dyn (ae (calls n f (c.args.toList.map (opnd e))) vO) .ofV else .bad:=by
    intro b;cases b with
    |false=>exact .inl fun n=>rfl
    |true=>exact .inr ⟨_,_,_,rfl,fun n=>rfl,(hc _ _).bnd (bz.const _)⟩
   exact key2 (cn cx.ann.fz o.dst) _ _ _ _ (key (!(cx.iso f)&&!(cx.nw f)&&(cx.own f).isNone)) h0
  |tmp t=>exact hv
  |const t=>exact hv
  |global t=>exact hv
theorem A5(hc:∀f,bz (call f) fun n=>calls n f)(e:Env)(gid:Nat)(o:Oper):iI (fQ (cx.wc call) e gid o) fun n=>fQ (cx.wc (calls n)) e gid o:=by
 unfold fQ;cases o.op<;>first|exact .inl fun n=>rfl|exact zJ hc e gid o _
theorem Ab{A:Act1}{As:Nat->Act1}(h:iI A As):iI (ib A) fun n=>ib (As n):=by
 rcases h with h|⟨m,ms,sh,rfl,h2,h3⟩
 ·exact .inl fun n=>by(try dsimp only);rw[h]
 ·exact .inr ⟨m,ms,_,rfl,fun n=>by(try dsimp only);rw[h2];rfl,h3⟩
theorem BO{A:Act1}{As:Nat->Act1}(h:iI A As){k:Env->M ρ}{ks:Nat->Env->M ρ}(hk:bz k ks)(e:Env)(d:Option Tmp):aS (nj e d A k) fun n=>nj e d (As n) (ks n):=by
 rcases h with h|⟨m,ms,sh,rfl,h2,h3⟩
 ·have:(fun n=>nj e d (As n) (ks n))=fun n=>nj e d A (ks n):=by funext n;rw[h]
  rw[this];cases A with
  |bad=>exact aS.const _
  |stat u=>exact hk _
  |dyn m sh=>exact (aS.const m).bnd fun v=>hk _
  |thr v=>exact aS.const _
 ·have:(fun n=>nj e d (As n) (ks n))=fun n=>nj e d (.dyn (ms n) sh) (ks n):=by funext n;rw[h2]
  rw[this];exact h3.bnd fun v=>hk _
theorem oE(hc:∀f,bz (call f) fun n=>calls n f)(base:Nat)(ops:Array Oper)(st:Bool):∀(is:List Nat)(e:Env)(k:Env->M ρ)(ks:Nat->Env->M ρ),bz k ks->
  aS (jl (cx.wc call) base ops st is e k) fun n=>jl (cx.wc (calls n)) base ops st is e (ks n)
 |[],e,k,ks,hk=>hk e
 | i:: is,e,k,ks,hk=>by
  simp only[jl];cases ops[i]? with
  |none=>exact aS.const _
  |some o=>
   simp only;refine BO ?_ (fun e'=>oE hc base ops st is e' k ks hk) e o.dst;cases st with
   |true=>exact Ab (A5 hc e _ o)
   |false=>exact A5 hc e _ o
theorem zp{c:AV}{want:Bool}{k:Nat}{m:M (List AV)}{ms:Nat->M (List AV)}(h:aS m ms):aS (aB c want k m) fun n=>aB c want k (ms n):=by
 unfold aB;cases c with
 |bool b=>
  simp only;cases b== want with
  |true=>exact h
  |false=>exact aS.const _
 |tup vs=>cases vs<;>exact aS.const _
 |_=>exact aS.const _
theorem kj(hc:∀f,bz (call f) fun n=>calls n f)(base:Nat)(ops:Array Oper):∀(gs:List (Option (Nat×Bool)×List Nat))(e:Env)(k:Env->M ρ)(ks:Nat->Env->M ρ),bz k ks->
  aS (eo (cx.wc call) base ops gs e k) fun n=>eo (cx.wc (calls n)) base ops gs e (ks n)
 |[],e,k,ks,hk=>hk e
 |(none,is):: gs,e,k,ks,hk=>by
  simp only[eo];exact oE hc base ops false is e _ _ fun e'=>kj hc base ops gs e' k ks hk
 | (some (j,want),is):: gs,e,k,ks,hk=>by
  simp only[eo];cases dG ops j with
  |none=>exact aS.const _
  | some t=>
   simp only;have hp:∀c,(is.all fun i=>match ops[i]? with|some o=>fa (cx.wc c) o&&o.dst.isSome|none=>false)=(is.all fun i=>match ops[i]? with|some o=>fa cx o&&o.dst.isSome|none=>false):=fun c=>rfl;have key:∀b:Bool,aS (bif b then ae (aB (e.av t) want (dz ops is gs).length (jl (cx.wc call) base ops true is e fun e'=>bif (dz ops is gs).all (fun t=>mT (e'.get t))then M.pure ((dz ops is gs).map e'.av)else M.fail)) fun vs=>
     eo (cx.wc call) base ops gs (fW (forget e (dc ops is)) vs 0 (dz ops is gs)) k else M.fail) fun n=>(bif b then ae (aB (e.av t) want (dz ops is gs).length (jl (cx.wc (calls n)) base ops true is e fun e'=>bif (dz ops is gs).all (fun t=>mT (e'.get t))then M.pure ((dz ops is gs).map e'.av)else M.fail)) fun vs=>
     eo (cx.wc (calls n)) base ops gs (fW (forget e (dc ops is)) vs 0 (dz ops is gs)) (ks n)else M.fail):=by
    intro b;cases b with
    |false=>exact aS.const _
    |true=>exact (zp (oE hc base ops true is e _ _ (bz.const _))).bnd fun vs=>kj hc base ops gs _ k ks hk
   exact key _
theorem Ci{α:Type}{m:M α}{ms:Nat->M α}(h:aS m ms):aS (bH m) fun n=>bH (ms n):=by
 intro x;obtain⟨h1,h2⟩:=h x;refine⟨fun hne=>?_,fun n hne=>?_⟩
 ·have hne':m x≠.fail:=fun hf=>hne (by simp only[bH,hf]);obtain⟨N,hN⟩:=h1 hne';exact⟨N,fun n hn=>by have:=hN n hn;(try dsimp only at this |-);simp only[bH,this]⟩
 ·(try dsimp only at hne |-)
  have hne':ms n x≠.fail:=fun hf=>hne (by simp only[bH,hf])
  have:=h2 n hne'
  (try dsimp only at this)
  simp only[bH,this]
theorem yZ(hc:∀f,bz (call f) fun n=>calls n f):∀f,bz ((fe (cx.wc call)).call f) fun n=>(fe (cx.wc (calls n))).call f:=by
 intro f args;show aS (bif cx.iso f then bH (call f args)else call f args) fun n=>(bif cx.iso f then bH (calls n f args)else calls n f args);cases cx.iso f with
 |true=>exact Ci (hc f args)
 |false=>exact hc f args
theorem EK(c:FuncId->List AV->M AV)(ops:Array Oper)(i j:Nat):nC (cx.wc c) ops i j=nC cx ops i j:=rfl
theorem rZ(c:FuncId->List AV->M AV)(ops:Array Oper)(bf:List Nat):∀l,kD (cx.wc c) ops bf l=kD cx ops bf l
 |[]=>rfl
 |i:: is=>by simp only[kD,rZ c ops bf is,EK]
theorem BM(c:FuncId->List AV->M AV)(ops:Array Oper)(ord:List Nat):mI (cx.wc c) ops ord=mI cx ops ord:=by
 unfold mI;rw[rZ]
theorem BP(hc:∀f,bz (call f) fun n=>calls n f)(id:Nat)(ops:Array Oper)(draw:Bool)(e:Env){k:Env->M ρ}{ks:Nat->Env->M ρ}(hk:bz k ks):
  aS (pz (cx.wc call) id ops draw e k) fun n=>pz (cx.wc (calls n)) id ops draw e (ks n):=by
 unfold pz;simp only[BM];have hk':bz (fun e':Env=>k { e' with nx:=e.nx+ops.size }) fun n e'=>ks n { e' with nx:=e.nx+ops.size }:=fun e'=>hk _;have key:∀b1 b2:Bool,aS (bif b1 then(bif draw then(bif b2 then eo (fe (cx.wc call)) e.nx ops (dH ops (tV cx id ops.size)) e fun e'=>k { e' with nx:=e.nx+ops.size }else M.fail)
   else eo (cx.wc call) e.nx ops (dH ops (List.range ops.size)) e fun e'=>k { e' with nx:=e.nx+ops.size })else M.fail) fun n=>(bif b1 then(bif draw then(bif b2 then eo (fe (cx.wc (calls n))) e.nx ops (dH ops (tV cx id ops.size)) e fun e'=>ks n { e' with nx:=e.nx+ops.size }else M.fail)
   else eo (cx.wc (calls n)) e.nx ops (dH ops (List.range ops.size)) e fun e'=>ks n { e' with nx:=e.nx+ops.size })else M.fail):=by
  intro b1 b2;cases b1 with
  |false=>exact aS.const _
  | true=>
   cases draw with
   |false=>exact kj hc _ _ _ _ _ _ hk'
   |true=>
    cases b2 with
    |false=>exact aS.const _
    |true=>exact kj (cx:=cx) (call:=(fe (cx.wc call)).call) (calls:=fun n=>(fe (cx.wc (calls n))).call) (yZ hc) _ _ _ _ _ _ hk'
 exact key (jM cx.nt ops) (mI cx ops (tV cx id ops.size))
theorem Eg{ps:List Nat}{k:Nat->M ρ}{ks:Nat->Nat->M ρ}(h:∀q,aS (k q) fun n=>ks n q):aS (pZ ps k) fun n=>pZ ps (ks n):=by
 intro x;cases ps with
 |nil=>exact aS.const (pZ [] k) x
 | cons p ps=>
  unfold pZ;simp only;refine⟨fun hne=>?_,fun n hne=>?_⟩
  ·by_cases hall:∀q∈ps,k q x=k p x
   ·rw [NE hall]at hne |-;have hN:∀l:List Nat,(∀q∈l,k q x=k p x)->∃N,∀n,N<=n->∀q∈l,ks n q x=k p x:=by
     intro l
     induction l with
     |nil=>intro _;exact⟨0,fun n _ q hq=>by simp at hq⟩
     | cons q l ih=>
      intro hl;obtain⟨N1,h1⟩:=ih fun q hq=>hl q (by simp[hq]);have hq:=hl q (by simp);obtain⟨N2,h2⟩:=(h q x).1 (by rw[hq];exact hne);refine⟨max N1 N2,fun n hn r hr=>?_⟩;rcases NP.1 hr with rfl|hr
      ·have:=h2 n (by omega)
       (try dsimp only at this)
       rw[this,hq]
      ·exact h1 n (by omega) r hr
    obtain⟨N,h1⟩:=hN (p:: ps) (fun q hq=>by rcases NP.1 hq with rfl|hq;rfl;exact hall q hq);refine⟨N,fun n hn=>?_⟩;have hp:=h1 n hn p (by simp)
    (try dsimp only)
    rw[NE fun q hq=>by rw[hp];exact h1 n hn q (by simp[hq]),hp]
   ·rw[if_neg hall]at hne;exact absurd rfl hne
  ·(try dsimp only at hne |-)
   by_cases hall:∀q∈ps,ks n q x=ks n p x
   ·rw[NE hall]at hne |-;have hp:=(h p x).2 n hne
    (try dsimp only at hp)
    have hq:∀q∈ps,k q x=k p x:=fun q hq=>by
     have:=(h q x).2 n (by(try dsimp only);rw[hall q hq];exact hne)
     (try dsimp only at this)
     rw[<- this,hall q hq,hp]
    rw[NE hq,hp]
   ·rw[if_neg hall]at hne;exact absurd rfl hne
theorem zG(x:AV)(y:Hp):(∃h',∀kf kt:M ρ,jz x kf kt y=kf h')\/
  (∃(ps:List Nat)(g:Nat->Hp->Hp),∀kf kt:M ρ,jz x kf kt y=pZ ps (fun q h=>kt (g q h)) y)\/∀kf kt:M ρ,jz x kf kt y= .fail:=by
 cases x with
 | it l=>
  cases hl:y[l]? with
  |none=>right;right;intro kf kt;simp only[jz,hl]
  | some cs=>
   by_cases h1:cs=[.tup [],.nilm]
   ·left;subst h1;exact⟨y.set l [],fun kf kt=>by simp only[jz,hl]⟩
   ·by_cases h2:∃m n qs cu,cs=[.tup [],.mp m,.int .i64 n,.sl qs,cu]
    ·obtain⟨m,n,qs,cu,rfl⟩:=h2;by_cases h3:∃es,y[m]? = some [.tup es]/\(es.length:Int)=n
     ·obtain⟨es,hm,hn⟩:=h3;cases hq:qs.map xC with
      |nil=>left;exact⟨y.set l [],fun kf kt=>by simp only[jz,hl,hm,NE hn,hq]⟩
      |cons p ps=>
       right;left;exact⟨p:: ps,fun q h=>h.set l [.tup [],.mp m,.int .i64 n,jC ((p:: ps).filter fun r=>!(Nat.beq r q)),.int .i64 (q:Nat)],fun kf kt=>by simp only[jz,hl,hm,NE hn,hq]⟩
     ·right;right;intro kf kt;simp only[jz,hl];split
      ·rename_i es hm;rw[if_neg fun hn=>h3 ⟨es,hm,hn⟩]
      ·rfl
    ·right;right;intro kf kt;simp only[jz,hl];split
     ·rename_i hes;simp only[NB]at hes;exact absurd hes h1
     ·rename_i m n qs cu hes;simp only[NB]at hes;exact absurd ⟨m,n,qs,cu,hes⟩ h2
     ·rfl
 |_=>right;right;intro kf kt;rfl
theorem xH{kf kt:M ρ}{kfs kts:Nat->M ρ}(h1:aS kf kfs)(h2:aS kt kts)(x:AV):aS (jz x kf kt) fun n=>jz x (kfs n) (kts n):=by
 intro y;rcases zG (ρ:=ρ) x y with⟨h',hk⟩|⟨ps,g,hk⟩|hk
 ·simp only[hk];exact h1 h'
 ·simp only[hk];exact Eg (k:=fun q h=>kt (g q h)) (ks:=fun n q h=>kts n (g q h)) (fun q z=>h2 (g q z)) y
 ·simp only[hk];exact pj.const _
theorem zi(hc:∀f,bz (call f) fun n=>calls n f)(id:Nat)(ops:Array Oper)(draw:Bool)(e:Env){k:Env->M ρ}{ks:Nat->Env->M ρ}(hk:bz k ks):
  aS (ll (cx.wc call) id ops draw e k) fun n=>ll (cx.wc (calls n)) id ops draw e (ks n):=by
 unfold ll;cases rU ops draw with
 |none=>exact BP hc id ops draw e hk
 | some q=>
  obtain⟨p,d,q⟩:=q;have key:∀b:Bool,aS (bif b then jz (e.av p) (k ((e.set d Ent.none).set q ⟨.val (.bool false),none⟩)) (k ((e.set d Ent.none).set q ⟨.val (.bool true),none⟩))else M.fail)
    fun n=>(bif b then jz (e.av p) (ks n ((e.set d Ent.none).set q ⟨.val (.bool false),none⟩)) (ks n ((e.set d Ent.none).set q ⟨.val (.bool true),none⟩))else M.fail):=by
   intro b;cases b with
   |false=>exact aS.const _
   |true=>exact xH (hk _) (hk _) _
  exact key (decide (p<1000)&&decide (d<cx.nt)&&decide (q<cx.nt))
theorem oh{ja:JA}{j:List AV->M ρ}{js:Nat->List AV->M ρ}(h:bz j js)(e:Env):aS (sB ja j e) fun n=>sB ja (js n) e:=by
 unfold sB;cases pack ja e with
 |none=>exact aS.const _
 |some vs=>
  simp only;cases ja.fz with
  |true=>simp only[NF];exact (aS.const (Na vs)).bnd h
  |false=>exact h vs
theorem Js:∀(n:Nat)(code:Code),SizeOf.sizeOf code<n->∀(call:FuncId->List AV->M AV)(calls:Nat->FuncId->List AV->M AV)(fx:bq ρ)(fxs:Nat->bq ρ),(∀f,bz (call f) fun n=>calls n f)->oq fx fxs->vP fx->(∀n,vP (fxs n))->
  ∀(e:Env)(kn:Env->M ρ)(kns:Nat->Env->M ρ)(kx:Nat->Env->M ρ)(kxs:Nat->Nat->Env->M ρ)(kr:Env->M ρ)(krs:Nat->Env->M ρ),bz kn kns->(∀i,bz (kx i) fun n=>kxs n i)->bz kr krs->
  aS (ev (cx.wc call) fx code e kn kx kr) fun n=>ev (cx.wc (calls n)) (fxs n) code e (kns n) (kxs n) (krs n):=by
 intro n
 induction n with
 |zero=>intro code hn;omega
 | succ n ih=>
  intro code hn call calls fx fxs hc hfx hfc hfcs e kn kns kx kxs kr krs hkn hkx hkr;cases code<;>(try exact aS.const _)
  case skip=>exact hkn e
  case exit id=>exact hkx id e
  case ret=>exact hkr e
  case region id ops draw=>exact zi hc id ops draw e hkn
  case seq x y=>
   have hx:SizeOf.sizeOf x<n:=by simp at hn;omega
   have hy:SizeOf.sizeOf y<n:=by simp at hn;omega
   simp only[ev];have hya:∀e,aS (ev (cx.wc call) fx y e kn kx kr) fun n=>ev (cx.wc (calls n)) (fxs n) y e (kns n) (kxs n) (krs n):=fun e=>ih y hy call calls fx fxs hc hfx hfc hfcs e kn kns kx kxs kr krs hkn hkx hkr;have key:∀oj:Option JA,aS (match oj with|some ja=>jn (fun vs=>ev (cx.wc call) fx y (unpack ja vs) kn kx kr) fun j=>ev (cx.wc call) fx x e (sB ja j) kx kr|none=>ev (cx.wc call) fx x e (fun e'=>ev (cx.wc call) fx y e' kn kx kr) kx kr)
     fun n=>(match oj with|some ja=>jn (fun vs=>ev (cx.wc (calls n)) (fxs n) y (unpack ja vs) (kns n) (kxs n) (krs n)) fun j=>ev (cx.wc (calls n)) (fxs n) x e (sB ja j) (kxs n) (krs n)|none=>ev (cx.wc (calls n)) (fxs n) x e (fun e'=>ev (cx.wc (calls n)) (fxs n) y e' (kns n) (kxs n) (krs n)) (kxs n) (krs n)):=by
    intro oj;cases oj with
    |none=>exact ih x hx call calls fx fxs hc hfx hfc hfcs e _ (fun n e'=>ev (cx.wc (calls n)) (fxs n) y e' (kns n) (kxs n) (krs n)) kx kxs kr krs hya hkx hkr
    |some ja=>exact ih x hx call calls fx fxs hc hfx hfc hfcs e _ (fun n=>sB ja fun vs=>ev (cx.wc (calls n)) (fxs n) y (unpack ja vs) (kns n) (kxs n) (krs n)) kx kxs kr krs (fun e'=>oh (fun vs=>hya _) e') hkx hkr
   have h:=key (match nd x with|some t=>pE cx.ann.joins t|none=>none);exact h
  case cond o x y=>
   have hx:SizeOf.sizeOf x<n:=by simp at hn;omega
   have hy:SizeOf.sizeOf y<n:=by simp at hn;omega
   cases o<;>(try exact aS.const _)
   case const v=>
    simp only[ev];cases cA v with
    |bool b=>
     cases b with
     |true=>exact ih x hx call calls fx fxs hc hfx hfc hfcs e kn kns kx kxs kr krs hkn hkx hkr
     |false=>exact ih y hy call calls fx fxs hc hfx hfc hfcs e kn kns kx kxs kr krs hkn hkx hkr
    |_=>exact aS.const _
   rename_i t;simp only[ev];cases decide (t<1000)with
   |false=>exact aS.const _
   | true=>
    simp only[NF];cases e.av t with
    |bool b=>
     cases b with
     |true=>exact ih x hx call calls fx fxs hc hfx hfc hfcs e kn kns kx kxs kr krs hkn hkx hkr
     |false=>exact ih y hy call calls fx fxs hc hfx hfc hfcs e kn kns kx kxs kr krs hkn hkx hkr
    |_=>exact aS.const _
  case block id code=>
   have hbx:∀(kx:Nat->Env->M ρ)(kxs:Nat->Nat->Env->M ρ)(kn:Env->M ρ)(kns:Nat->Env->M ρ),(∀i,bz (kx i) fun n=>kxs n i)->bz kn kns->∀i,bz (fun e'=>bif Nat.beq i id then kn e' else kx i e') fun n e'=>bif Nat.beq i id then kns n e' else kxs n i e':=by
    intro kx kxs kn kns hkx hkn i e'
    (try dsimp only)
    cases Nat.beq i id with
    |true=>exact hkn e'
    |false=>exact hkx i e'
   by_cases hcl:∃b,code= .loop b
   ·obtain⟨b,rfl⟩:=hcl;have hb:SizeOf.sizeOf b<n:=by simp at hn;omega
    have key:∀oj:Option JA,aS (match oj with|none=>M.fail|some ja=>sB ja (fx fun self vs=>ev (cx.wc call) fx b (unpack ja vs) (sB ja self) (fun i e'=>bif Nat.beq i id then kn e' else kx i e') kr) e)
      fun n=>(match oj with|none=>M.fail|some ja=>sB ja (fxs n fun self vs=>ev (cx.wc (calls n)) (fxs n) b (unpack ja vs) (sB ja self) (fun i e'=>bif Nat.beq i id then kns n e' else kxs n i e') (krs n)) e):=by
     intro oj;cases oj with
     |none=>exact aS.const _
     | some ja=>
      refine oh (hfx _ (fun n self vs=>ev (cx.wc (calls n)) (fxs n) b (unpack ja vs) (sB ja self) (fun i e'=>bif Nat.beq i id then kns n e' else kxs n i e') (krs n)) ?_ ?_ ?_) e
      ·intro self selfs hs vs;exact ih b hb call calls fx fxs hc hfx hfc hfcs (unpack ja vs) _ (fun n=>sB ja (selfs n)) _ (fun n i e'=>bif Nat.beq i id then kns n e' else kxs n i e') kr krs (fun e'=>oh hs e') (hbx kx kxs kn kns hkx hkn) hkr
      ·intro self selfs hs vs;exact ih b hb call (fun _=>call) fx (fun _=>fx) (fun f=>bz.const _) hfc hfc (fun _=>hfc) (unpack ja vs) _ (fun n=>sB ja (selfs n)) _ (fun n i e'=>bif Nat.beq i id then kn e' else kx i e') kr (fun _=>kr) (fun e'=>oh hs e') (fun i=>bz.const _) (bz.const _)
      ·intro m self selfs hs vs;exact ih b hb (calls m) (fun _=>calls m) (fxs m) (fun _=>fxs m) (fun f=>bz.const _) (hfcs m) (hfcs m) (fun _=>hfcs m) (unpack ja vs) _ (fun n=>sB ja (selfs n)) _ (fun n i e'=>bif Nat.beq i id then kns m e' else kxs m i e') (krs m) (fun _=>krs m) (fun e'=>oh hs e') (fun i=>bz.const _) (bz.const _)
    exact key (pE cx.ann.loops id)
   ·have hs:SizeOf.sizeOf code<n:=by simp at hn;omega
    have hev:∀(cx:Cx)(fx:bq ρ)(kn:Env->M ρ)(kx:Nat->Env->M ρ)(kr:Env->M ρ),ev cx fx (.block id code) e kn kx kr=ev cx fx code e kn (fun i e'=>bif Nat.beq i id then kn e' else kx i e') kr:=by
     intro cx fx kn kx kr;cases code<;>first|rfl|exact absurd ⟨_,rfl⟩ hcl
    rw[hev];have:(fun n=>ev (cx.wc (calls n)) (fxs n) (.block id code) e (kns n) (kxs n) (krs n))=fun n=>ev (cx.wc (calls n)) (fxs n) code e (kns n) (fun i e'=>bif Nat.beq i id then kns n e' else kxs n i e') (krs n):=by
     funext n;exact hev _ _ _ _ _
    rw[this];exact ih code hs call calls fx fxs hc hfx hfc hfcs e kn kns _ (fun n i e'=>bif Nat.beq i id then kns n e' else kxs n i e') kr krs hkn (hbx kx kxs kn kns hkx hkn) hkr
end
end Go.Av
namespace Go.Av
variable [Dr]
section
variable {P:Program} {cx:Cx} {c:Entry} {N:Nat} {U:Nat->Prop} {e:Env} {h:Hp} {a:Act} {w:World} {S:aE} {β:List bT} {γ:Nat->Value} {lam:Nat->Option Nat} {ω:Nat->Owner} {o:Oper} {gid:Nat}
theorem FR.locals(H:FR c N U e h a w S β γ lam ω){B off n:Nat}(hin:l5 e B off n=true):∃b x m,bN e.lb B=some m/\off+n<=m/\lam B=some b/\Row w b x/\m<=x.size/\
  ∀i,i<n->∃v a',x[off+i]? = some v/\(e.get (B+off+i)).v= .val a'/\VR S β a' v/\∀g z,(e.get (B+off+i)).g=some g->aV e.al g=some z->v=γ g:=by
 unfold l5 at hin;split at hin
 ·rename_i m hm;have hle:off+n<=m:=by simp at hin;exact hin.1
  obtain⟨_,_,_,b,x,h1,h2,h3,h4,h5⟩:=H.lblk B m hm;have hms:m<=x.size:=by
   rcases ON m with h0|h0
   ·omega
   ·obtain⟨v,_,hv,_⟩:=h5 (m-1) (by omega);rcases N7 (m-1) x.size with h|h
    ·omega
    ·rw[OI h]at hv;simp at hv
  refine⟨b,x,m,hm,hle,h1,h2,hms,fun i hi=>?_⟩
  have:=h5 (off+i) (by omega)
  rw[<- Nat.add_assoc]at this;exact this
 ·simp at hin
omit [Dr]in
theorem rm{S:aE}{β:List bT}{e:Env}{B:Nat}{f:Nat->Value}:(n:Nat)->(∀i,i<n->VR S β (e.av (B+i)) (f i))->bC S β (nA e B n) ((List.range n).map f)
 |0,_=>by simp[nA,bC]
 |n+1,hh=>by
  simp only[nA,List.range_succ,Ps,N8,PD];refine bC.append (rm n fun i hi=>hh i (by omega)) ?_;simp only[bC];exact⟨_,_,rfl,hh n (by omega),rfl⟩
omit [Dr]in
theorem pL(hT:TOK P cx.T){t:Nat}{ti:TI}(ht:cx.T t=some ti){b off:Nat}{x:Array Value}(hr:Row w b x)(f:Nat->Value)(hf:∀i,i<ti.size->x[off+i]? = some (f i)):
  (ti.agg=true->(loadVar t ⟨b,off,none⟩).run P w= .ok (.agg ((List.range ti.size).map f).toArray) w)/\(ti.agg=false->ti.size=1->(loadVar t ⟨b,off,none⟩).run P w= .ok (f 0) w):=by
 obtain⟨ii,d,_,hii,hd,_,_,hsz,_,_,hag,_⟩:=(hT.get ht).ex;refine⟨fun hagg=>?_,fun hagg hone=>?_⟩
 ·have:=run_loadCells (P:=P) w ⟨b,off,none⟩ ti.size f (fun j hj=>by rw[addr_add,hr.cell];exact hf j hj)
  simp[loadVar,gu hd,hag,hagg,run_sizeOf hii,hsz,this]
 ·have h0:=hf 0 (by omega);rw[<- hr.cell]at h0;simp only[Oi]at h0;simp[loadVar,gu hd,hag,hagg,h0]
omit [Dr]in
theorem EV{T:TT}{t:Nat}{x:AV}{h:Hp}(hx:∀l off,x≠.hp l off):aX T t x h=match af T t x with|some v=>.ok v h|none=>.fail:=by
 unfold aX;cases x<;>first|rfl|exact absurd rfl (hx _ _)
theorem AR(hT:TOK P cx.T)(H:FR c N U e h a w S β γ lam ω)(hd:∀t,o.dst=some t->t<N){t p:Nat}(ho:o.op= .load t (.tmp p))(hx:p<1000)(hr:bi e o.dst (eq cx e o.dst t p) h≠.fail):
  After P c N (UG U gid) (bi e o.dst (eq cx e o.dst t p) h) o a w:=by
 have hp:=H.slots p hx;unfold eq at hr |-;cases hv:(e.get p).v with
 | loc B off=>
  rw[hv]at hr hp;simp only at hr |-;simp only[fB]at hp;obtain⟨b,hlam,hpv⟩:=hp;cases ht:cx.T t with
  |none=>rw[ht]at hr;exact absurd rfl hr
  | some ti=>
   rw[ht]at hr;simp only at hr |-;cases hin:l5 e B off ti.size with
   |false=>rw[hin]at hr;exact absurd rfl hr
   | true=>
    rw[hin]at hr;simp only[NF]at hr |-;obtain⟨b',x,m,hm,hle,hlam',hrow,hms,hcells⟩:=H.locals hin;rw[hlam]at hlam';cases hlam';let f:Nat->Value:=fun i=>(x[off+i]?).getD undef;have hf:∀i,i<ti.size->x[off+i]? = some (f i):=fun i hi=>by
     obtain⟨v,_,hv',_⟩:=hcells i hi;show _=some ((x[off+i]?).getD undef);rw[hv'];rfl
    have hload:=pL hT ht hrow f hf;have hexec:∀v,(loadVar t ⟨b,off,none⟩).run P w= .ok v w->(execOp a.eval o).run P w= .ok (.value v) w:=fun v hv'=>by
     simp only[execOp,ho,Act.eval,hpv,Instr.loadAt,Instr.sureAddr,Sem.run_bind,Sem.run_pure,Result.andThen_ok,hv']
    cases hag:ti.agg with
    |true=>
     simp only[NF];refine After.val (hexec _ (hload.1 hag)) (Np ⟨S,β,γ,lam,ω,H.setV hd ?_⟩);simp only[VR];refine⟨_,rfl,rm ti.size fun i hi=>?_⟩;obtain⟨v,a',g1,g2,g3,_⟩:=hcells i hi;have:f i=v:=by show (x[off+i]?).getD undef=v;rw[g1];rfl
     rw[this];simp only[Env.av,Ent.av,g2];exact g3
    | false=>
     rw[hag]at hr;simp only[NQ]at hr |-;cases hone:decide (ti.size=1)with
     |false=>rw[hone]at hr;exact absurd rfl hr
     |true=>
      have hone':ti.size=1:=by simpa using hone
      simp only[NF];obtain⟨v,a',g1,g2,g3,g4⟩:=hcells 0 (by omega);simp only[Oi]at g1 g2 g4;have hfv:f 0=v:=by show (x[off+0]?).getD undef=v;rw[Oi,g1];rfl
      refine After.val (hexec _ (hfv▸hload.2 hag hone')) (Np ⟨S,β,γ,lam,ω,H.set hd ?_ (fun g z hg hz=>g4 g z hg hz) (fun g hg=>H.used.1 _ g hg)⟩);rw[g2];exact g3
 | val av =>
  rw[hv]at hr hp;simp only at hr |-;simp only[fB]at hp;have hexec:∀v,(Instr.loadAt t (a.tmps.getD p undef)).run P w= .ok v w->(execOp a.eval o).run P w= .ok (.value v) w:=fun v hv'=>by
   simp only[execOp,ho,Act.eval,Sem.run_bind,hv',Result.andThen_ok,Sem.run_pure]
  have hbyval:∀r,af cx.T t av=some r->After P c N (UG U gid) (.ok (e.upd o.dst (.ofV r)) h) o a w:=fun r hr'=>by
   obtain⟨v,h1,h2⟩:=AQ hT H.wf hr' hp;exact After.val (hexec v h1) (Np ⟨S,β,γ,lam,ω,H.setV hd h2⟩)
  cases hmem:cn cx.ann.hl o.dst with
  |false=>
   rw[hmem]at hr;simp only[NQ]at hr |-;cases hl:af cx.T t av with
   |none=>rw[hl]at hr;exact absurd rfl hr
   |some r=>exact hbyval r hl
  | true =>
   rw[hmem]at hr;simp only[NF]at hr |-;simp only[bi,ae]at hr |-;by_cases hav:∃l off,av= .hp l off
   ·obtain⟨l,off,rfl⟩:=hav;unfold aX at hr |-;simp only at hr |-;simp only[VR]at hp;obtain⟨⟨b,nb⟩,hb,hb0,hpv⟩:=hp;cases ht:cx.T t with
    |none=>rw[ht]at hr;exact absurd rfl hr
    | some ti=>
     cases hcs:h[l]? with
     |none=>rw[ht,hcs]at hr;exact absurd rfl hr
     | some cs=>
      rw[ht,hcs]at hr;simp only at hr |-;obtain⟨ii,d,_,hii,hdd,_,_,hsz,_,_,hagd,_⟩:=(hT.get ht).ex;by_cases hne:cs=[]
      ·subst hne;cases hag:ti.agg with
       | true=>
        rw[hag]at hr;simp only[NF,Ot]at hr |-;by_cases hz:off+ti.size<=0
        ·rw[NE hz]at hr |-;have hz0:ti.size=0:=by omega
         have hl0:(loadVar t ⟨b,off,none⟩).run P w= .ok (.agg #[]) w:=by
          simp[loadVar,gu hdd,hagd,hag,run_sizeOf hii,hsz,hz0,loadCells,loadCellsFrom]
         refine After.val (v:=.agg #[]) (hexec _ (by rw[hpv];simp only[Instr.loadAt,Instr.sureAddr,Sem.run_bind,Sem.run_pure,Result.andThen_ok,hl0])) (Np ⟨S,β,γ,lam,ω,H.setV hd ?_⟩);simp only[VR];exact⟨[],by simp,by simp[bC]⟩
        ·rw[if_neg hz]at hr;exact absurd rfl hr
       |false=>rw[hag,List.getElem?_nil]at hr;exact absurd rfl hr
      ·obtain⟨y,k1,k2,k3,k4,k5⟩:=H.heap.cells hcs hne hb hb0;rw[hb]at k1;cases k1;have hcell:∀j v,(y.toList.take cs.length)[j]? = some v->w.cell? ⟨b,0+j,none⟩=some v:=fun j v hj=>by
        rw[NU,k2.cell];rw[N0]at hj;split at hj
        ·simpa using hj
        ·simp at hj
       have hvd:=k4.drop off;have hcd:∀j v,((y.toList.take cs.length).drop off)[j]? = some v->w.cell? ⟨b,off+j,none⟩=some v:=fun j v hj=>by
        rw[OL]at hj
        have:=hcell _ _ hj
        rwa [NU]at this
       cases hag:ti.agg with
       | true=>
        rw[hag]at hr;simp only[NF]at hr |-;by_cases hz:off+ti.size<=cs.length
        ·rw[NE hz]at hr |-;obtain⟨v,h1,h2⟩:=mU hT ht hvd hcd (r:=.agg ((cs.drop off).take ti.size)) (by rw[hag];simp only[NF];rw[NE (by simp;omega)]);exact After.val (hexec v (by rw[hpv];simp only[Instr.loadAt,Instr.sureAddr,Sem.run_bind,Sem.run_pure,Result.andThen_ok,h1])) (Np ⟨S,β,γ,lam,ω,H.setV hd h2⟩)
        ·rw[if_neg hz]at hr;exact absurd rfl hr
       | false=>
        rw[hag]at hr;simp only[NQ]at hr |-;cases hg:cs[off]? with
        |none=>rw[hg]at hr;exact absurd rfl hr
        |some r=>
         simp only;obtain⟨v,h1,h2⟩:=mU hT ht hvd hcd (r:=r) (by rw[hag];simp only[NQ,List.head?_drop];exact hg);exact After.val (hexec v (by rw[hpv];simp only[Instr.loadAt,Instr.sureAddr,Sem.run_bind,Sem.run_pure,Result.andThen_ok,h1])) (Np ⟨S,β,γ,lam,ω,H.setV hd h2⟩)
   ·rw[EV (fun l off hh=>hav ⟨l,off,hh⟩)]at hr |-;cases hl:af cx.T t av with
    |none=>rw[hl]at hr;exact absurd rfl hr
    |some r=>exact hbyval r hl
end
end Go.Av
namespace Go.Av
variable [Dr]
section
variable {P:Program} {cx:Cx} {c:Entry} {N:Nat} {U:Nat->Prop} {e:Env} {h:Hp} {a:Act} {w:World} {S:aE} {β:List bT} {γ:Nat->Value} {lam:Nat->Option Nat} {ω:Nat->Owner} {o:Oper} {gid:Nat}
omit [Dr]in
theorem jX{x:AV}{v:Value}(h:bh x=true)(hv:VR S β x v):v.cells= #[v]/\v.oneCell'=true:=by
 have h1:cM x=some 1:=by cases x<;>simp_all[bh,cM]
 have h2:cE 1 x=true:=by
  unfold cE;rw[h1];cases x<;>simp_all[bh,aa]
 obtain⟨g1,g2,g3⟩:=kA h2 hv;have hc:v.cells= #[v]:=by
  cases x<;>simp[bh]at h<;>simp only[VR]at hv
  case bool=>subst hv;rfl
  case int=>subst hv;rfl
  case nilp=>subst hv;rfl
  case nilf=>subst hv;rfl
  case nili=>subst hv;rfl
  case hn=>subst hv;rfl
  case str=>obtain⟨_,rfl,_⟩:=hv;rfl
  case sl=>obtain⟨_,_,rfl,_⟩:=hv;rfl
  case ip=>obtain⟨_,_,_,rfl,_⟩:=hv;rfl
  case hp=>obtain⟨_,_,_,rfl⟩:=hv;rfl
  case mp=>obtain⟨_,_,_,rfl⟩:=hv;rfl
  case nilm=>subst hv;rfl
  case hs=>rcases hv with⟨_,_,_,_,rfl,_⟩|⟨_,_,rfl⟩<;>rfl
  case fn=>obtain⟨_,_,rfl,_⟩:=hv;rfl
  case iface=>obtain⟨_,rfl,_⟩:=hv;rfl
 exact⟨hc,g3 v (by rw[hc];simp)⟩
omit [Dr]in
theorem pU(hT:TOK P cx.T){t:Nat}{ti:TI}(ht:cx.T t=some ti){b off:Nat}{x:Array Value}{v:Value}(hr:Row w b x)(hs:v.cells.size=ti.size)(hone:∀y∈v.cells.toList,y.oneCell'=true)(hle:off+ti.size<=x.size):
  (Instr.storeAt t (.pointer (some ⟨b,off,none⟩)) v).run P w= .ok () (w.setRow b (x.toList.take off++v.cells.toList++x.toList.drop (off+v.cells.toList.length)).toArray):=by
 obtain⟨ii,d,_,hii,hd,_,_,hsz,_⟩:=(hT.get ht).ex;obtain⟨te,hrow⟩:=hr;have hst:=run_storeCells_at P b off te v.cells.toList 0 x w hrow (by simp[hs];omega) hone;simp only[Oi]at hst;have hne:¬(v.cells.size≠ii.size):=by rw[hs,hsz];simp
 simp only[Instr.storeAt,Instr.sureAddr,Sem.run_bind,Sem.run_pure,Result.andThen_ok,storeVar,run_sizeOf hii,hne,NK,hst]
omit [Dr]in
theorem oB{n:Nat}{x:AV}{cs:List AV}{v:Value}(h:jt n x=some cs)(hv:VR S β x v):cs=aa x/\v.cells.size=n/\bC S β cs v.cells.toList/\∀y∈v.cells.toList,y.oneCell'=true:=by
 unfold jt at h;cases hk:cE n x with
 |false=>rw[hk]at h;simp at h
 |true=>
  rw[hk]at h;simp only[NF,NB]at h;subst h;obtain⟨h1,h2,h3⟩:=kA hk hv;exact⟨rfl,h1,h2,h3⟩
omit [Dr]in
theorem xi{x:AV}(h:JF x=true):x= .hn:=by cases x<;>simp_all[JF]
theorem FI(hT:TOK P cx.T)(H:FR c N U e h a w S β γ lam ω)(_hN:∀t,t<1000->True)(hU:∀g,gid<=g->g<gid+1000->¬U g){t:Nat}{x y:Operand}(ho:o.op= .store t x y)(hx:∀t,x= .tmp t->t<1000)(hy:∀t,y= .tmp t->t<1000)(hpN:∀p,x= .tmp p->B5 (cD cx.ann.kinds p .L)=true->p<N)(hr:bR cx e gid o h≠.fail):After P c N (UG U gid) (bR cx e gid o h) o a w:=by
 unfold bR fQ at hr |-;rw[ho]at hr |-;cases x<;>simp only at hr |- <;> (try exact absurd rfl hr);rename_i p;cases hdst:o.dst with
 |some d=>rw[hdst]at hr;exact absurd rfl hr
 |none=>
 rw[hdst]at hr;simp only at hr |-;cases hlw:eI cx.ann.lw p&&!(iU (e.get p))with
 |true=>rw[hlw]at hr;exact absurd rfl hr
 |false=>
 rw[hlw]at hr;simp only[NQ]at hr |-;have hp:=H.slots p (hx p rfl);have hyv:=bl H y hy;have hexec:∀w',(Instr.storeAt t (a.tmps.getD p undef) (a.eval y)).run P w= .ok () w'->(execOp a.eval o).run P w= .ok .skip w':=fun w' hh=>by
  have he:a.eval (.tmp p)=a.tmps.getD p undef:=rfl;simp only[execOp,ho,he,Sem.run_bind,hh,Result.andThen_ok,Sem.run_pure]
 unfold fR at hr |-;cases hv:(e.get p).v with
 | loc B off=>
  rw[hv]at hr hp;simp only at hr |-;simp only[fB]at hp;obtain⟨b,hlam,hpv⟩:=hp;cases ht:cx.T t with
  |none=>rw[ht]at hr;exact absurd rfl hr
  | some ti =>
   rw[ht]at hr;simp only at hr |-;cases hin:l5 e B off ti.size with
   |false=>rw[hin]at hr;exact absurd rfl hr
   | true =>
    rw[hin]at hr;simp only[NF]at hr |-;obtain⟨b',z,m,hm,hle,hlam',hrow,hms,hcells⟩:=H.locals hin;rw[hlam]at hlam';cases hlam';have hst:∀v,a.eval y=v->v.cells.size=ti.size->(∀q∈v.cells.toList,q.oneCell'=true)->
      (execOp a.eval o).run P w= .ok .skip (w.setRow b (z.toList.take off++v.cells.toList++z.toList.drop (off+v.cells.toList.length)).toArray):=fun v hv' h1 h2=>
     hexec _ (by rw[hpv,hv'];exact pU hT ht hrow h1 h2 (by omega))
    cases hS:B5 (cD cx.ann.kinds p .L)with
    | true=>
     rw[hS]at hr;simp only[NF]at hr |-;cases hcond:m7 e B off p ti.size with
     |false=>rw[hcond]at hr;exact absurd rfl hr
     | true=>
      rw[hcond]at hr;simp only[NF]at hr |-;unfold m7 at hcond;rw[hm]at hcond;simp only[NG]at hcond;obtain⟨⟨h1,h2⟩,h3⟩:=hcond;have h1:=NR h1;have h3:=NR h3;subst h1 h3;unfold aK at hr |-;cases hcs:jt ti.size (opnd e y)with
      |none=>rw[hcs]at hr;exact absurd rfl hr
      |some cs=>
       obtain⟨k1,k2,k3,k4⟩:=oB hcs hyv;obtain⟨S',ω',_,F⟩:=H.storeS (u:=⟨.val (.tup []),none⟩) (hpN p rfl hS) hm (by simpa using k2) hlam hrow k3 hpv;refine After.skip hdst (hst _ rfl k2 k4) ?_;have F2:=F.wider (V:=UG U gid) (fun _ h=>.inl h);have hacs:aa (.agg cs)=cs:=rfl;simp only[Px,N4,NU]at F2 |-;exact⟨_,_,_,_,_,F2⟩
    | false =>
     rw[hS]at hr;simp only[NQ]at hr |-;cases hag:ti.agg with
     | true =>
      rw[hag]at hr;simp only[NF]at hr |-;unfold ap at hr |-;cases hcs:jt ti.size (opnd e y)with
      |none=>rw[hcs]at hr;exact absurd rfl hr
      | some cs=>
       rw[hcs]at hr;simp only at hr |-;cases hnil:kz cs (fE cx.ann.nils p) ti.size with
       |false=>rw[hnil]at hr;exact absurd rfl hr
       | true=>
        obtain⟨k1,k2,k3,k4⟩:=oB hcs hyv;have hnb:∀i∈fE cx.ann.nils p,i<ti.size/\nth cs i= .hn:=fun i hi=>by
         unfold kz at hnil;rw[Oc]at hnil
         have:=hnil i hi
         rw[NG]at this;exact⟨by simpa using this.1,xi this.2⟩
        have hm1000:m<1000:=(H.lblk B m hm).2.2.1;have hcsl:cs.length=ti.size:=by rw[<- k3.length];simpa using k2
        have F:=H.storeL (u:=⟨.val (.tup []),none⟩) (L:=lz (B+off) cs (fE cx.ann.nils p) gid ti.size) (A:=qc (fE cx.ann.nils p) gid) (vs:=(a.eval y).cells.toList) (ent:=jf cs (fE cx.ann.nils p) gid)
         hU (lA (fun i hi=>(hnb i hi).1) (by omega)) hm hle (by simpa using k2) hlam hrow (fun t'=>rM _ _ _ _ _ _ _) (fun i hi=>by
          obtain⟨v,v1,v2⟩:=k3.allR i (by omega);unfold jf;cases hmem:eI (fE cx.ann.nils p) i with
          | true=>
           have hn:=(hnb i ((gR _ _).1 hmem)).2;rw[hn]at v2;simp only[VR]at v2;subst v2;refine⟨_,.sl [],v1,rfl,?_,fun g z hg _=>?_,fun g hg=>?_⟩
           ·simp only[VR];exact⟨none,0,rfl,NL _,fun _=>rfl,fun q hq=>by cases hq⟩
           ·simp only[NF,NB]at hg;unfold γN;rw[NE (by omega)]
           ·simp only[NF,NB]at hg;exact .inr (by omega)
          |false=>exact⟨v,nth cs i,v1,rfl,v2,fun g z hg _=>by simp at hg,fun g hg=>by simp at hg⟩)
        refine After.skip hdst (hst _ rfl k2 k4) ?_;exact⟨_,_,_,_,_,F⟩
     | false=>
      rw[hag]at hr;simp only[NQ]at hr |-;cases hone:decide (ti.size=1)with
      |false=>rw[hone]at hr;exact absurd rfl hr
      | true=>
       have hone':ti.size=1:=by simpa using hone
       rw[hone]at hr;simp only[NF]at hr |-;have hput:∀(v:Value)(u:Ent)(en:Ent)(A:List (Nat×Option Nat))(av:AV),a.eval y=v->v.cells= #[v]->v.oneCell'=true->fA A gid->en.v= .val av->VR S β av v->
         (∀g z,en.g=some g->aV (A++e.al) g=some z->v=γN γ gid g)->(∀g,en.g=some g->U g\/(gid<=g/\g<gid+1000))->
         After P c N (UG U gid) (.ok (e.upd none { ent:=u,ls:=[(B+off,en)],add:=A }) h) o a w:=by
        intro v u en A av hav hc1 hc2 hA hen hr1 hg1 hg2;have F:=H.storeL (u:=u) (L:=[(B+off,en)]) (A:=A) (n:=1) (m:=m) (off:=off) (vs:=v.cells.toList) (ent:=fun _=>en) hU hA hm (by omega) (by rw[hc1];rfl) hlam hrow (fun t'=>by
          simp only[Ob,N4,cB];by_cases ht':B+off=t'
          ·rw[NE ht',NE (by omega)]
          ·rw[if_neg ht',if_neg (by omega)];rfl) (fun i hi=>by
          have:i=0:=by omega
          subst this;exact⟨v,av,by rw[hc1];rfl,hen,hr1,hg1,hg2⟩)
        refine After.skip hdst (hst v hav (by rw[hc1,hone'];rfl) (by rw[hc1];simpa using hc2)) ?_;exact⟨_,_,_,_,_,F⟩
       rw[hdst]at *;cases y with
       | tmp s=>
        simp only at hr |-;have hs:=H.slots s (hy s rfl);cases hsv:(e.get s).v with
        |loc _ _=>rw[hsv]at hr;exact absurd rfl hr
        | val av=>
         rw[hsv]at hr hs;simp only at hr |-;unfold cI at hr |-;cases hok:bh av with
         |false=>rw[hok]at hr;exact absurd rfl hr
         |true=>
          obtain⟨j1,j2⟩:=jX hok hs;refine hput _ _ (e.get s) [] av rfl j1 j2 (jy gid) hsv hs (fun g z hg hz=>?_) (fun g hg=>.inl (H.used.1 s g hg));unfold γN;rw[if_neg (fun hr=>hU g hr.1 hr.2 (H.used.1 s g hg))];exact H.grps s g z (hy s rfl) hg hz
       | const v=>
        simp only at hr |-;cases hn:bB (.const v)with
        | true=>
         have hv':v= .slice none 0 0:=by
          unfold bB at hn;split at hn
          ·rename_i hq;simpa using hq
          ·simp at hn
         subst hv';refine hput _ _ _ _ (.sl []) rfl rfl rfl (sT gid) rfl ?_ (fun g z hg hz=>?_) (fun g hg=>?_)
         ·simp only[VR];exact⟨none,0,rfl,NL _,fun _=>rfl,fun q hq=>by cases hq⟩
         ·simp only[NB]at hg;unfold γN;rw[NE (by omega)];rfl
         ·simp only[NB]at hg;exact .inr (by omega)
        | false=>
         rw[hn]at hr;simp only[NQ]at hr |-;unfold cI at hr |-;cases hok:bh (opnd e (.const v))with
         |false=>rw[hok]at hr;exact absurd rfl hr
         |true=>
          obtain⟨j1,j2⟩:=jX hok hyv;exact hput _ _ _ [] _ rfl j1 j2 (jy gid) rfl hyv (fun g z hg _=>by cases hg) (fun g hg=>by cases hg)
       |global g=>simp only[bB,NQ,cI,opnd,bh]at hr;exact absurd rfl hr
       | func f=>
        simp only[bB,NQ]at hr |-;unfold cI at hr |-;cases hok:bh (opnd e (.func f))with
        |false=>rw[hok]at hr;exact absurd rfl hr
        |true=>
         obtain⟨j1,j2⟩:=jX hok hyv;exact hput _ _ _ [] _ rfl j1 j2 (jy gid) rfl hyv (fun g z hg _=>by cases hg) (fun g hg=>by cases hg)
 | val av=>
  rw[hv]at hr hp;simp only at hr |-;simp only[fB]at hp;simp only[bi,ae]at hr |-;cases hav:av with
  | hp l off=>
   subst hav;simp only[VR]at hp;obtain⟨⟨b,nb⟩,hb,hb0,hpv⟩:=hp;unfold cj at hr |-;cases ht:cx.T t with
   |none=>rw[ht]at hr;exact absurd rfl hr
   | some ti=>
    rw[ht]at hr;simp only at hr |-;cases hcs:h[l]? with
    |none=>rw[hcs]at hr;exact absurd rfl hr
    | some cs=>
     rw[hcs]at hr;simp only at hr |-;cases hcond:(cE ti.size (opnd e y)&&decide (off+ti.size<=cs.length)&&decide (0<ti.size))with
     |false=>rw[hcond]at hr;exact absurd rfl hr
     | true=>
      rw[hcond]at hr;simp only[NF]at hr |-;simp only[NG,Oa]at hcond;obtain⟨⟨h1,h2⟩,h3⟩:=hcond;obtain⟨k2,k3,k4⟩:=kA h1 hyv;have hne:cs≠[]:=by rintro rfl;simp at h2;omega
      obtain⟨z,j1,j2,j3,j4,j5⟩:=H.heap.cells hcs hne hb hb0;rw[hb]at j1;cases j1;have hzs:cs.length<=z.size:=by
       have:=j4.length
       simp at this;omega
      have hacl:(aa (opnd e y)).length=ti.size:=by rw[<- k3.length];simpa using k2
      have F:=H.turnH (cs':=setCells cs off (aa (opnd e y))) (y:=(z.toList.take off++(a.eval y).cells.toList++z.toList.drop (off+(a.eval y).cells.toList.length)).toArray) hcs hne ⟨_,hb⟩ j2 (by simp[k2];omega) (by
       rw[fj _ _ _ (by omega)];have hsp:bC S β (setCells cs off (aa (opnd e y))) (((z.toList.take cs.length).take off++(a.eval y).cells.toList++(z.toList.take cs.length).drop (off+(a.eval y).cells.toList.length))):=by
        unfold setCells;have hl1:(a.eval y).cells.toList.length=(aa (opnd e y)).length:=k3.length;rw[hl1];exact ((j4.take off).append k3).append (j4.drop _)
       have heq:(z.toList.take off++(a.eval y).cells.toList++z.toList.drop (off+(a.eval y).cells.toList.length)).take cs.length=
         (z.toList.take cs.length).take off++(a.eval y).cells.toList++(z.toList.take cs.length).drop (off+(a.eval y).cells.toList.length):=by
        rw[Py,Py];have hl:(a.eval y).cells.toList.length=ti.size:=by simpa using k2
        have e1:(z.toList.take off).length=off:=by simp;omega
        rw[PR,PR];have e2:min cs.length off=off:=by omega
        have e3:min off cs.length=off:=by omega
        rw[e2,e3,e1];have e4:(a.eval y).cells.toList.take (cs.length-off)=(a.eval y).cells.toList:=OY (by omega);rw[e4];congr 1;rw[Q2,N3,e1,hl];congr 2;omega
       show bC S β _ (List.take _ _);rw[show (z.toList.take off++(a.eval y).cells.toList++z.toList.drop (off+(a.eval y).cells.toList.length)).toArray.toList=(z.toList.take off++(a.eval y).cells.toList++z.toList.drop (off+(a.eval y).cells.toList.length))from rfl,heq];exact hsp) (fun t ht=>ht.setCells.resolve_right (xG h1 t))
      refine After.skip hdst (hexec _ (by rw[hpv];exact pU hT ht j2 k2 k4 (by omega))) ?_;have hupd:∀E:Env,E.upd none (.ofV (.tup []))=E:=fun E=>rfl;rw[hupd];exact Np ⟨_,_,_,_,_,F⟩
  |_=>subst hav;unfold cj at hr;exact absurd rfl hr
end
end Go.Av
namespace Go.Av
variable [Dr]
section
variable {P:Program} {cx:Cx} {c:Entry} {N:Nat} {U:Nat->Prop} {e:Env} {h:Hp} {a:Act} {w:World} {S:aE} {β:List bT} {γ:Nat->Value} {lam:Nat->Option Nat} {ω:Nat->Owner} {o:Oper} {gid:Nat}
theorem Li(H:FR c N U e h a w S β γ lam ω)(hd:∀t,o.dst=some t->t<N){cs:List AV}{x:Array Value}{vs:List Value}{t:TypeId}(hvs:bC S β cs vs)(hx:∀(j:Nat)(v:Value),vs[j]? = some v->x[j]? = some v)(hrun:(execOp a.eval o).run P w= .ok (.value (.pointer (some ⟨w.heap.size,0,none⟩))) (w.alloc (.cells x t))):After P c N (UG U gid) (.ok (e.upd o.dst (.ofV (.ip cs))) h) o a w:=by
 have H2:=H.allocS x t x.size;refine After.val hrun (Np ⟨_,β,γ,lam,ω,H2.setV hd ?_⟩);simp only[VR];refine⟨w.heap.size,0,vs,rfl,hvs.mono (fun k o v hv=>?_) (fm.refl β),fun j v hj=>?_⟩
 ·unfold aE.withRowTo;split
  ·rename_i hk;subst hk;rw[H.wf.none (NL _)]at hv;simp at hv
  ·exact hv
 ·have:=hx j v hj
  unfold aE.withRowTo;rw[NE rfl,NU,NE]
  ·exact this
  ·rcases N7 j x.size with h|h
   ·exact h
   ·rw[OI h]at this;simp at this
theorem A2(H:FR c N U e h a w S β γ lam ω)(hd:∀t,o.dst=some t->t<N){cs:List AV}{x:Array Value}{vs:List Value}{t:TypeId}(hvs:bC S β cs vs)(hx:∀(j:Nat)(v:Value),vs[j]? = some v->x[j]? = some v)(hrun:(execOp a.eval o).run P w= .ok (.value (.pointer (some ⟨w.heap.size,0,none⟩))) (w.alloc (.cells x t)))(hr:bi e o.dst (.dyn (newH cs) .ofV) h≠.fail):After P c N (UG U gid) (bi e o.dst (.dyn (newH cs) .ofV) h) o a w:=by
 have hcs:cs≠[]:=by
  rintro rfl;exact hr rfl
 have hemp:(cs.isEmpty||cs.any rD)=false:=by
  cases hq:(cs.isEmpty||cs.any rD)with
  |false=>rfl
  |true=>
   exfalso;apply hr;simp only[bi,ae,newH,hq,NF]
 have hnb:=Ha (P5.1 hemp).2;have htake:bC S β cs (x.toList.take cs.length):=by
  refine .of_get ?_ fun i y v hy hv=>?_
  ·have hl:=hvs.length;rw[Pb];have:cs.length<=x.size:=by
    rcases ON cs.length with h0|h0
    ·omega
    ·obtain⟨v,hv,_⟩:=hvs.allR (cs.length-1) (by omega)
     have:=hx _ _ hv
     rcases N7 (cs.length-1) x.size with h|h
     ·omega
     ·rw[OI h]at this;simp at this
   simp;omega
  ·obtain⟨u,hu,hur⟩:=hvs.get hy
   have:=hx i u hu
   rw[N0]at hv;split at hv
   ·rw[Oe,this]at hv;cases hv;exact hur
   ·simp at hv
 obtain⟨ω',F,hnew,_⟩:=H.newH x t htake (fun t ht=>absurd ht (hnb t));have hx0:x.size≠0:=by
  have h1:=htake.length;have h2:=P9.2 hcs;simp only[Pb,OD]at h1;omega
 simp only[bi,ae,newH,hemp,NQ,M.pure];refine After.val hrun (Np ⟨_,_,γ,lam,ω',F.setV hd ?_⟩);simp only[VR];exact⟨_,hnew,hx0,rfl⟩
theorem G9(H:FR c N U e h a w S β γ lam ω)(hd:∀t,o.dst=some t->t<N){cs:List AV}{x:Array Value}{t:TypeId}(hvs:bC S β cs x.toList)(hrun:(execOp a.eval o).run P w= .ok (.value (.pointer (some ⟨w.heap.size,0,none⟩))) (w.alloc (.cells x t)))(hr:bi e o.dst (.dyn (G8 t cs) .ofV) h≠.fail):After P c N (UG U gid) (bi e o.dst (.dyn (G8 t cs) .ofV) h) o a w:=absurd rfl hr
omit [Dr]in
theorem Bn(hT:TOK P cx.T){t:Nat}{ti:TI}(ht:cx.T t=some ti):∃z:Value,(Instr.alloc t true (.tuple #[])).run P w= .ok (.pointer (some ⟨w.heap.size,0,none⟩)) (w.alloc (.cells z.cells t))/\z.cells.size=ti.size/\
  (∀told,bC S β (dU told ti) z.cells.toList):=by
 obtain⟨i,d,z,hi,hd,hz,hzs,hsz,_⟩:=(hT.get ht).ex;refine⟨z,?_,by omega,fun told=>sF hT ht told hi hz⟩;simp[Instr.alloc,zeroValue,typeInfo,hi,hz,newVar,newRow]
theorem CR(hT:TOK P cx.T)(H:FR c N U e h a w S β γ lam ω)(hd:∀t,o.dst=some t->t<N)(hU:∀g,gid<=g->g<gid+1000->¬U g){t:Nat}(ho:o.op= .alloc t)(hr:bR cx e gid o h≠.fail):
  After P c N (UG U gid) (bR cx e gid o h) o a w:=by
 unfold bR fQ at hr |-;rw[ho]at hr |-;simp only at hr |-;cases hdst:o.dst with
 |none=>rw[hdst]at hr;exact absurd rfl hr
 | some s=>
  rw[hdst]at hr;simp only at hr |-;unfold fO at hr |-;cases ht:cx.T t with
  |none=>rw[ht]at hr;exact absurd rfl hr
  | some ti=>
   rw[ht]at hr;simp only at hr |-;obtain⟨z,hrun,hzs,hz⟩:=Bn (w:=w) (S:=S) (β:=β) hT ht;have hexec:(execOp a.eval o).run P w= .ok (.value (.pointer (some ⟨w.heap.size,0,none⟩))) (w.alloc (.cells z.cells t)):=by
    simp only[execOp,ho,Sem.run_bind,hrun,Result.andThen_ok,Sem.run_pure]
   have hL:∀A:Act1,A=(bif decide (ti.size<1000)&&bw e.sl (bL s)&&kz (dU true ti) (fE cx.ann.nils s) ti.size then
     .stat { ent:=⟨.loc (bL s) 0,none⟩,ls:=lz (bL s) (dU (eI cx.ann.hb s) ti) (fE cx.ann.nils s) gid ti.size,add:=qc (fE cx.ann.nils s) gid,lb:=some (bL s,ti.size) }else .bad)->
     bi e (some s) A h≠.fail->After P c N (UG U gid) (bi e (some s) A h) o a w:=by
    rintro A rfl hr;cases hcond:(decide (ti.size<1000)&&bw e.sl (bL s)&&kz (dU true ti) (fE cx.ann.nils s) ti.size)with
    |false=>rw[hcond]at hr;exact absurd rfl hr
    |true=>
     simp only[NF];simp only[NG,Oa]at hcond;obtain⟨⟨h1,h2⟩,h3⟩:=hcond;obtain⟨lam',ω',F⟩:=H.allocL (s:=s) (n:=ti.size) (gid:=gid) (x:=z.cells) (t:=t) (cs:=dU (eI cx.ann.hb s) ti) (offs:=fE cx.ann.nils s) (hd s hdst) hU h1 (fun i hi=>by
       have hzz:=hz (eI cx.ann.hb s);have hl:=hzz.length;obtain⟨v,v1,v2⟩:=hzz.allR i (by rw[<- hl];simpa [hzs]using hi);exact⟨v,by simpa using v1,v2⟩) (fun i hi=>by
       unfold kz at h3;rw[Oc]at h3
       have:=h3 i hi
       rw[NG]at this;have hn:=xi this.2;have hlt:i<ti.size:=by simpa using this.1
       have hzz:=hz true;have hl:=hzz.length;obtain⟨v,v1,v2⟩:=hzz.allR i (by rw[<- hl];simpa [hzs]using hlt);rw[hn]at v2;simp only[VR]at v2;subst v2;exact⟨hlt,by simpa using v1⟩) h2
     refine After.val hexec ?_;rw[hdst];exact⟨_,_,_,_,_,F⟩
   cases hk:cD cx.ann.kinds s .L with
   |F=>
    simp only;rw[<- hdst];exact Li H hd (hz false) (fun j v hj=>by simpa using hj) hexec
   |H=>
    simp only;rw[<- hdst];exact A2 H hd (hz _) (fun j v hj=>by simpa using hj) hexec (by rw[hdst];simpa only[hk]using hr)
   |B=>
    simp only;rw[hk]at hr;rw[<- hdst]at hr |-;exact G9 H hd (hz _) hexec hr
   |L=>rw[hk]at hr;exact hL _ rfl hr
   |S=>rw[hk]at hr;exact hL _ rfl hr
theorem Ja(H:FR c N U e h a w S β γ lam ω)(hd:∀t,o.dst=some t->t<N)(hU:∀g,gid<=g->g<gid+1000->¬U g){t:Nat}{x:Operand}(ho:o.op= .box t x)(hx:∀t,x= .tmp t->t<1000)(hr:bR cx e gid o h≠.fail):
  After P c N (UG U gid) (bR cx e gid o h) o a w:=by
 unfold bR fQ at hr |-;rw[ho]at hr |-;simp only at hr |-;cases hdst:o.dst with
 |none=>rw[hdst]at hr;exact absurd rfl hr
 | some s=>
  rw[hdst]at hr;simp only at hr |-;have hv:=bl H x hx;have hexec:(execOp a.eval o).run P w= .ok (.value (.pointer (some ⟨w.heap.size,0,none⟩))) (w.alloc (.cells (a.eval x).cells t)):=by
   simp[execOp,ho,Instr.box,newVar,newRow]
  obtain⟨vs,hvs,hvx⟩:=hv.acells
  have hL:∀A:Act1,A=(match cx.T t with
    |none=>.bad
    | some ti=>bif decide (ti.size<1000)&&bw e.sl (bL s)then
      .dyn (aK ti.size (opnd e x)) fun v=>{ ent:=⟨.loc (bL s) 0,none⟩,ls:=lz (bL s) (aa v) [] 0 ti.size,lb:=some (bL s,ti.size) }
     else .bad)->bi e (some s) A h≠.fail->After P c N (UG U gid) (bi e (some s) A h) o a w:=by
   rintro A rfl hr;cases ht:cx.T t with
   |none=>rw[ht]at hr;exact absurd rfl hr
   | some ti=>
    rw[ht]at hr;simp only at hr |-;cases hcond:(decide (ti.size<1000)&&bw e.sl (bL s))with
    |false=>rw[hcond]at hr;exact absurd rfl hr
    | true=>
     rw[hcond]at hr;simp only[NF]at hr |-;simp only[NG,Oa]at hcond;obtain⟨h1,h2⟩:=hcond;unfold aK at hr |-;cases hcs:jt ti.size (opnd e x)with
     |none=>rw[hcs]at hr;exact absurd rfl hr
     | some cs=>
      obtain⟨_,k2,k3,_⟩:=oB hcs hv;obtain⟨lam',ω',F⟩:=H.allocL (s:=s) (n:=ti.size) (gid:=gid) (x:=(a.eval x).cells) (t:=t) (cs:=cs) (offs:=[]) (hd s hdst) hU h1 (fun i hi=>by
       obtain⟨v,v1,v2⟩:=k3.allR i (by rw[<- k3.length];simpa [k2]using hi);exact⟨v,by simpa using v1,v2⟩) (fun i hi=>by simp at hi) h2
      refine After.val hexec ?_;rw[hdst];have hls:lz (bL s) cs [] 0 ti.size=lz (bL s) cs [] gid ti.size:=by simp[lz,eI]
      have hac:aa (.agg cs)=cs:=rfl;simp only[hac,hls];exact⟨_,_,_,_,_,F⟩
  unfold lD at hr |-;cases hk:cD cx.ann.kinds s .F with
  |F=>
   simp only;rw[<- hdst];exact Li H hd hvs (fun j v hj=>by simpa using hvx j v hj) hexec
  |H=>
   simp only;rw[<- hdst];exact A2 H hd hvs (fun j v hj=>by simpa using hvx j v hj) hexec (by rw[hdst];simpa only[hk]using hr)
  |B=>rw[hk]at hr;exact absurd rfl hr
  |L=>rw[hk]at hr;exact hL _ rfl hr
  |S=>rw[hk]at hr;exact hL _ rfl hr
theorem FD(H:FR c N U e h a w S β γ lam ω)(hd:∀t,o.dst=some t->t<N){B b off:Nat}(hlam:lam B=some b)(hrun:(execOp a.eval o).run P w= .ok (.value (.pointer (some ⟨b,off,none⟩))) w):
  After P c N (UG U gid) (.ok (e.upd o.dst { ent:=⟨.loc B off,none⟩ }) h) o a w:=
 After.val hrun (Np ⟨S,β,γ,lam,ω,H.set hd (by simp only[fB];exact⟨b,hlam,rfl⟩) (fun _ _ h=>by cases h) (fun _ h=>by cases h)⟩)
theorem uK(hT:TOK P cx.T)(H:FR c N U e h a w S β γ lam ω)(hd:∀t,o.dst=some t->t<N){t f:Nat}{x:Operand}(ho:o.op= .fieldAddr t x f)(hx:∀t,x= .tmp t->t<1000)(hr:bR cx e gid o h≠.fail):
  After P c N (UG U gid) (bR cx e gid o h) o a w:=by
 unfold bR fQ at hr |-;rw[ho]at hr |-;cases x<;>simp only at hr |- <;> (try exact absurd rfl hr);rename_i p;have hp:=H.slots p (hx p rfl);unfold iC at hr |-;cases hv:(e.get p).v with
 | loc B off=>
  rw[hv]at hr hp;simp only at hr |-;simp only[fB]at hp;obtain⟨b,hlam,hpv⟩:=hp;cases ht:cx.T t with
  |none=>rw[ht]at hr;exact absurd rfl hr
  | some ti=>
   rw[ht]at hr;simp only at hr |-;cases hf:ti.offs[f]? with
   |none=>rw[hf]at hr;exact absurd rfl hr
   | some q=>
    obtain⟨o',ft,nm⟩:=q;rw[hf]at hr;simp only at hr |-;cases hft:cx.T ft with
    |none=>rw[hft]at hr;exact absurd rfl hr
    | some fi=>
     rw[hft]at hr;simp only at hr |-;cases hz:decide (fi.size=0)with
     |true=>rw[hz]at hr;exact absurd rfl hr
     | false=>
      simp only[NQ];have hfa:ab cx.T t (.hp 0 off) f=some (.hp 0 (off+o')):=by
       unfold ab;rw[ht];simp only;rw[hf];simp only;rw[hft];simp only;rw[if_neg (by simpa using hz)]
      obtain⟨v,h1,h2⟩:=nr (P:=P) (w:=w) (S:=S) (β:=[(b,1)]) hT hfa (vx:=.pointer (some ⟨b,off,none⟩)) (by simp[VR]);simp only[VR]at h2;obtain⟨b',hb',_,rfl⟩:=h2;simp only[Od,NB]at hb';subst hb';refine FD H hd hlam ?_;have he:a.eval (.tmp p)= .pointer (some ⟨b,off,none⟩):=hpv;simp only[execOp,ho,he,Sem.run_bind,h1,Result.andThen_ok,Sem.run_pure]
 |val av=>
  rw[hv]at hr hp;simp only at hr |-;refine eH H hd (m:=Instr.fieldAt t (a.eval (.tmp p)) f) (by simp[execOp,ho]) (fun r hr'=>nr hT hr' hp) hr
theorem uO(hT:TOK P cx.T)(H:FR c N U e h a w S β γ lam ω)(hd:∀t,o.dst=some t->t<N){t:Nat}{x i:Operand}(ho:o.op= .indexAddr t x i)(hx:∀t,x= .tmp t->t<1000)(hi:∀t,i= .tmp t->t<1000)(hr:bR cx e gid o h≠.fail):
  After P c N (UG U gid) (bR cx e gid o h) o a w:=by
 unfold bR fQ at hr |-;rw[ho]at hr |-;cases x<;>simp only at hr |- <;> (try exact absurd rfl hr);rename_i p;have hp:=H.slots p (hx p rfl);unfold dI at hr |-;cases hv:(e.get p).v with
 | loc B off=>
  rw[hv]at hr hp;simp only at hr |-;simp only[fB]at hp;obtain⟨b,hlam,hpv⟩:=hp;cases ht:cx.T t with
  |none=>rw[ht]at hr;exact absurd rfl hr
  | some ti=>
   rw[ht]at hr;cases hci:qT i with
   |none=>rw[hci]at hr;exact absurd rfl hr
   |some n=>
   rw[hci]at hr;simp only at hr |-;obtain⟨ik,rfl⟩:∃ik,i= .const (.int ik n):=by
    unfold qT at hci;split at hci
    ·simp only[NB]at hci;subst hci;exact⟨_,rfl⟩
    ·simp at hci
   cases hk:ti.kind<;>rw[hk]at hr<;>simp only at hr |- <;> (try exact absurd rfl hr);rename_i m el;cases hel:cx.T el with
   |none=>rw[hel]at hr;exact absurd rfl hr
   | some ei=>
    rw[hel]at hr;simp only at hr |-;cases hc:decide (0<=n/\n<m)with
    |false=>rw[hc]at hr;exact absurd rfl hr
    | true=>
     simp only[NF];have hia:ak cx.T t (.hp 0 off) (.int ik n)=some (.hp 0 (off+n.toNat*ei.size)):=by
      unfold ak;rw[ht];simp only;rw[hk];simp only;rw[hel];simp only;rw[NE (by simpa using hc)]
     obtain⟨v,h1,h2⟩:=nD (P:=P) (w:=w) (S:=S) (β:=[(b,1)]) hT hia (vx:=.pointer (some ⟨b,off,none⟩)) (vi:=.int ik n) (by simp[VR]) (by simp[VR]);simp only[VR]at h2;obtain⟨b',hb',_,rfl⟩:=h2;simp only[Od,NB]at hb';subst hb';refine FD H hd hlam ?_;have he:a.eval (.tmp p)= .pointer (some ⟨b,off,none⟩):=hpv;have hei:a.eval (.const (.int ik n))= .int ik n:=rfl;simp only[execOp,ho,he,hei,Sem.run_bind,h1,Result.andThen_ok,Sem.run_pure]
 |val av=>
  rw[hv]at hr hp;simp only at hr |-;refine eH H hd (m:=Instr.indexAt t (a.eval (.tmp p)) (a.eval i)) (by simp[execOp,ho]) (fun r hr'=>nD hT hr' hp (bl H i hi)) hr
theorem xF(H:FR c N U e h a w S β γ lam ω)(hd:∀t,o.dst=some t->t<N){x:Operand}(ho:o.op= .nilCheck x)(hx:∀t,x= .tmp t->t<1000)(hr:bR cx e gid o h≠.fail):
  After P c N (UG U gid) (bR cx e gid o h) o a w:=by
 unfold bR fQ at hr |-;rw[ho]at hr |-;cases x<;>simp only at hr |- <;> (try exact absurd rfl hr);rename_i p;have hp:=H.slots p (hx p rfl);cases hv:(e.get p).v with
 |loc B off=>
  have hp2:=hp;rw[hv]at hr hp;simp only at hr |-;simp only[fB]at hp;obtain⟨b,hlam,hpv⟩:=hp;have he:a.eval (.tmp p)= .pointer (some ⟨b,off,none⟩):=hpv;exact Az H hd (hx p rfl) (by simp[execOp,ho,he,hpv])
 | val av=>
  rw[hv]at hr hp;simp only at hr |-;have he:a.eval (.tmp p)=a.tmps.getD p undef:=rfl;cases hn:aU av with
  |none=>rw[hn]at hr;exact absurd rfl hr
  | some r=>
   have hrun:(execOp a.eval o).run P w= .ok (.value (a.tmps.getD p undef)) w/\r=av:=by
    simp only[fB]at hp;unfold aU at hn;split at hn<;>simp only[NB,reduceCtorEq]at hn<;>subst hn<;>simp only[VR]at hp
    ·obtain⟨b,off,vs,hpv,_⟩:=hp;exact⟨by simp[execOp,ho,he,hpv],rfl⟩
    ·obtain⟨b,hb,hpv⟩:=hp;exact⟨by simp[execOp,ho,he,hpv],rfl⟩
    ·obtain⟨y,hpv,_⟩:=hp;exact⟨by simp[execOp,ho,he,hpv],rfl⟩
    ·obtain⟨y,z,hpv,_⟩:=hp;exact⟨by simp[execOp,ho,he,hpv],rfl⟩
   obtain⟨hrun,rfl⟩:=hrun;exact After.val hrun (Np ⟨S,β,γ,lam,ω,H.setV hd hp⟩)
end
end Go.Av
namespace Go.Av
variable [Dr]
section
variable {P:Program} {cx:Cx} {c:Entry} {N:Nat} {U:Nat->Prop} {e:Env} {h:Hp} {a:Act} {w:World} {S:aE} {β:List bT} {γ:Nat->Value} {lam:Nat->Option Nat} {ω:Nat->Owner} {o:Oper} {gid:Nat}
theorem FR.out'(H:FR c N U e h a w S β γ lam ω){S':aE}{β':List bT}{w':World}{h':Hp}(L:Left (ct β h) S β w S' β' w' h'):Out c h' w' S' β':=by
 obtain⟨ω',F,_⟩:=H.left L;exact F.out
theorem mD(hC:db P cx.own cx.call)(H:FR c N U e h a w S β γ lam ω)(hd:∀t,o.dst=some t->t<N)(hU:∀g,gid<=g->g<gid+1000->¬U g){f:FuncId}{args:List AV}{vs:List Value}(hargs:bC S β args vs)(hrun:(P.funcs[f]?).any (fun fn=>fn.body.isSome&&!(fn.name== "runtime.NumGoroutine"))=true->(execOp a.eval o).run P w= .ok (.enter f vs.toArray) w){sh:AV->Upd}(hsh:(∀v,sh v= .ofV v)\/∃sz,cx.own f=some sz/\∀v,sh v= .own v gid (some sz))(hr:(ae (cx.call f args) fun v=>M.pure (e.upd o.dst (sh v))) h≠.fail):After P c N (UG U gid) ((ae (cx.call f args) fun v=>M.pure (e.upd o.dst (sh v))) h) o a w:=by
 have hne:cx.call f args h≠.fail:=by
  intro hf;unfold ae at hr;rw[hf]at hr;exact hr rfl
 obtain⟨hcalls,hfn⟩:=hC f args h S β w vs hne H.gok H.wf H.heapX hargs;have hrun:=hrun hfn;intro next Q hn hp
 unfold Oper.wp;rw[hrun];simp only[Oper.upon];refine hcalls.mono fun en w' hpost=>?_;unfold ae at hn hp;cases hres:cx.call f args h with
 |fail=>exact absurd hres hne
 |pan pv h'=>
  rw[hres]at hpost hp;obtain⟨S',β',v,rfl,hv,hleft⟩:=hpost;exact hp pv h' v w' rfl ⟨S',β',H.out' hleft,hv⟩
 | ok rv h'=>
  rw[hres]at hpost hn;obtain⟨S',β',v,rfl,hv,hleft,hown⟩:=hpost;obtain⟨ω',F,hno⟩:=H.left hleft;refine hn (e.upd o.dst (sh rv)) h' _ _ rfl ?_ (put_defers a o.dst v);rcases hsh with hsh|⟨sz,hof,hsh⟩
  ·rw[hsh];exact Np ⟨_,_,_,_,_,F.setV hd hv⟩
  ·rw[hsh];obtain⟨ad,len,cap,rfl,h1,h2,h3⟩:=hown sz hof;obtain⟨ω2,F2⟩:=F.own (z:=some sz) hd hv hU (by
    rcases h3 with h3|⟨b,off,x,rfl,g1,g2,g3,g4,g5⟩
    ·subst h3;exact .inl ⟨ad,len,rfl,h2⟩
    ·exact .inr ⟨len,cap,sz,b,off,x,rfl,h1,rfl,g1,g2,hno b g3 g4,O0 H.size g3,g5⟩)
   exact⟨_,_,_,_,ω2,F2⟩
omit [Dr]in
theorem iw{f:FuncId}{args:Array Value}(hf:(P.funcs[f]?).any (fun fn=>fn.body.isSome&&!(fn.name== "runtime.NumGoroutine"))=true):(callFunc f args).run P w= .ok (.enter f args) w:=by
 cases hfn:P.funcs[f]? with
 |none=>rw[hfn]at hf;simp at hf
 |some fn=>
  rw[hfn]at hf;simp only[Option.any_some,NG,OK]at hf;obtain⟨h1,h2⟩:=hf;have h3:fn.body.isNone=false:=by cases hb:fn.body<;>simp_all
  simp only[callFunc,Sem.run_bind,run_program,Result.andThen_ok,hfn,h2,NC,NK,h3,Sem.run_pure]
omit [Dr]in
theorem tB{z:Option Nat}{g sz:Nat}{v:Value}(hf:pi S w ω g z v)(hz:vG z (some sz)=true):qB w sz v/\(z=none\/z=some sz):=by
 have hz':z=none\/z=some sz:=by
  unfold vG at hz;cases z with
  |none=>exact .inl rfl
  |some n=>simp only at hz;exact .inr (by rw[NR hz])
 refine⟨?_,hz'⟩;obtain⟨ad,len,cap,h1,h2,h3,h4⟩:=hf;refine⟨ad,len,cap,h1,h2,h3,h4.imp id ?_⟩;rintro⟨sz',b,off,x,g1,g2,g3,g4,_⟩;rcases hz' with rfl|rfl
 ·cases g1
 ·cases g1;exact⟨b,off,x,g2,g3,g4⟩
omit [Dr]in
theorem DW{T:TT}{t:Nat}{as:List AV}{y r:AV}(h:ck T t (.sl as) y=some r):∃ti e ei bs,T t=some ti/\ti.kind= .slice e/\T e=some ei/\iQ y=some bs/\dw ei.size as=true/\dw ei.size bs=true/\
  (as.length+bs.length)*ei.bytes<=140737488355328/\0<ei.bytes/\r= .sl (as++bs)/\dn T t=some ei.size/\kO y ei.size=true:=by
 unfold ck at h;cases ht:T t with
 |none=>rw[ht]at h;simp at h
 | some ti=>
  rw[ht]at h;simp only at h;split at h
  ·rename_i e hk;cases he:T e with
   |none=>rw[he]at h;simp at h
   | some ei=>
    rw[he]at h;simp only at h;cases hb:iQ y with
    |none=>rw[hb]at h;simp at h
    | some bs=>
     rw[hb]at h;simp only at h;cases hc:(dw ei.size as&&dw ei.size bs&&decide ((as.length+bs.length)*ei.bytes<=140737488355328)&&decide (0<ei.bytes)&&kO y ei.size)with
     |false=>rw[hc]at h;simp at h
     |true=>
      rw[hc]at h;simp only[NF,NB]at h;simp only[NG,Oa]at hc;obtain⟨⟨⟨⟨h1,h2⟩,h3⟩,h4⟩,h5⟩:=hc;exact⟨ti,e,ei,bs,rfl,hk,he,rfl,h1,h2,h3,h4,h.symm,by simp[dn,ht,hk,he],h5⟩
  ·simp at h
omit [Dr]in
theorem Gb{T:TT}{t:Nat}{x y r:AV}(h:ck T t x y=some r):∃as,x= .sl as:=by
 unfold ck at h;split at h
 ·simp at h
 ·split at h
  ·split at h
   ·simp at h
   ·split at h
    ·exact⟨_,rfl⟩
    ·simp at h
  ·simp at h
omit [Dr]in
theorem uf{y:AV}{n:Nat}(h:kO y n=true):∀s,y= .str s->n=1:=by
 rintro s rfl;exact NR h
omit [Dr]in
theorem eK{t u:TypeId}{x y:Operand}{cc:Call}(ho:o.op= .call cc)(hb:cc.callee= .builtin .append)(ht:cc.argTypes.toList=[t,u])(hx:cc.args.toList=[x,y]){v:Value}{w':World}(hrun:(Builtin.append_ #[t,u] o.type #[a.eval x,a.eval y]).run P w= .ok v w'):(execOp a.eval o).run P w= .ok (.value v) w':=by
 have h1:cc.argTypes= #[t,u]:=by apply PM;simpa using ht
 have h2:cc.args= #[x,y]:=by apply PM;simpa using hx
 have h3:cc.args.map a.eval= #[a.eval x,a.eval y]:=by rw[h2];simp
 simp only[execOp,ho,resolve,hb,Sem.run_bind,Sem.run_pure,Result.andThen_ok,invoke,builtin,h1,h3,hrun]
omit [Dr]in
theorem pF{ag:Bool}{sz:Nat}(hs:ag=true\/sz=1):∀(n:Nat)(cs:List AV)(vs:List Value),bC S β cs vs->n*sz<=cs.length->(cs.take (n*sz)).all bh=true->dF S β (jg ag sz n cs) (vs.take (n*sz)) sz
 |0,cs,vs,_,_,_=>by rw[PS,Px];exact .nil sz
 | n + 1,cs,vs,hv,hl,hok=>by
  have hm:(n+1)*sz=sz+n*sz:=by rw[Ow,Nat.one_mul,Nat.add_comm]
  have hle:sz<=cs.length:=by omega
  have hvl:=hv.length
  have h1:dF S β [bif ag then .agg (cs.take sz)else nth cs 0] (vs.take sz) sz:=by
   have hcl:(vs.take sz).length=sz:=by simp;omega
   have hone:∀(c:AV)(x:Value)(j:Nat),j<sz->cs[j]? = some c->vs[j]? = some x->x.cells= #[x]/\x.oneCell'=true:=fun c x j hj hc hx=>by
    obtain⟨y,hy,hr⟩:=hv.get hc;rw[hx]at hy;cases hy;refine jX (Oc.1 hok c (Ov (i:=j) ?_)) hr;rw[N0,NE (by omega)];exact hc
   have hex:∀(j:Nat)(x:Value),j<sz->vs[j]? = some x->∃c,cs[j]? = some c:=fun j x hj hx=>⟨_,NH (by omega)⟩;refine⟨by rw[hcl];simp,fun i e he=>?_,fun x hx=>?_⟩
   ·cases i with
    |succ i=>simp at he
    | zero=>
     simp only[Od,NB]at he;subst he;cases ag with
     |true=>
      refine⟨.agg (vs.take sz).toArray,by simp only[NF,VR];exact⟨_,rfl,hv.take sz⟩,by simp[Value.cells];omega,fun j x hx=>?_⟩;simpa [Value.cells]using hx
     | false=>
      rcases hs with hs|hs
      ·cases hs
      ·subst hs;have hc0:cs[0]? = some (nth cs 0):=by
        unfold nth;rw[NH (by omega),Oj,NH (by omega)];rfl
       obtain⟨y,hy,hr⟩:=hv.get hc0;have ho:=hone _ y 0 (by omega) hc0 hy;refine⟨y,hr,by rw[ho.1];rfl,fun j x hx=>?_⟩;rw[ho.1]at hx;cases j with
       |succ j=>simp at hx
       |zero=>
        simp only[OO,Od,NB]at hx;subst hx;simp only[PS,NU,OO];rw[N0,NE (by omega)];exact hy
   ·obtain⟨j,hj⟩:=P4 hx;rw[N0]at hj;split at hj
    ·rename_i hlt;obtain⟨c,hc⟩:=hex j x hlt hj;exact (hone c x j hlt hc hj).2
    ·simp at hj
  have h2:=pF hs n (cs.drop sz) (vs.drop sz) (hv.drop sz) (by simp;omega) (by
   rw[Oc]at hok |-;intro x hx;obtain⟨j,hj⟩:=P4 hx;rw[N0]at hj;split at hj
   ·rename_i hlt;rw[OL]at hj;refine hok x (Ov (i:=sz+j) ?_);rw[N0,NE (by omega)];exact hj
   ·simp at hj)
  have:=h1.append h2
  rw[hm,List.take_add];exact this
def vQ(P:Program)(S:aE)(β:List bT)(w:World)(v:Value)(Y:AV):Prop:=
 ∀(sz:Nat)(bs:List AV),iQ Y=some bs->dw sz bs=true->(∀s,Y= .str s->sz=1)->(Builtin.lenOf v).run P w= .ok bs.length w/\∃cs:List Value,dF S β bs cs sz/\
  ∀w':World,(∀a:Addr,w'.cell? a=w.cell? a)->(Builtin.firstCells sz bs.length v).run P w'= .ok cs.toArray w'
omit [Dr]in
theorem od{Y:AV}{v:Value}(hw:Wf S w)(hv:VR S β Y v):vQ P S β w v Y:=fun sz bs he hok hs=>by
 obtain⟨h1,cs,h2,h3⟩:=src_ok (P:=P) hw he hv hok hs;exact⟨h1,cs,h2,fun w' hw'=>h3 w' fun b o x hx=>by rw[hw'];exact hw b o x hx⟩
omit [Dr]in
theorem qP(ag:Bool)(sz:Nat):∀(n:Nat)(cs:List AV),(jg ag sz n cs).length=n
 |0,_=>rfl
 |n+1,cs=>by simp[jg,qP ag sz n]
theorem sx(H:FR c N U e h a w S β γ lam ω){Y:AV}{v:Value}{es:List AV}(hv:VR S β Y v)(hsrc:sW h Y=some es):vQ P S β w v (.sl es):=fun sz' bs he hok _=>by
 simp only[iQ,NB]at he;subst he;unfold sW at hsrc;split at hsrc
 ·rename_i l off len sz ag;cases hcs:h[l]? with
  |none=>rw[hcs]at hsrc;cases hsrc
  | some cs=>
   rw[hcs]at hsrc;simp only at hsrc;cases hb:((ag||Nat.beq sz 1)&&decide (off+len*sz<=cs.length)&&((cs.drop off).take (len*sz)).all bh)with
   |false=>rw[hb]at hsrc;cases hsrc
   | true =>
    rw[hb]at hsrc;simp only[NF,NB]at hsrc;subst hsrc;simp only[NG,Oa,Ox]at hb;obtain⟨⟨h1,h2⟩,h3⟩:=hb;have hag:ag=true\/sz=1:=h1.imp id NR;rw[qP];rcases ON len with rfl|h0
    ·obtain⟨q,cap,rfl,_⟩:=hv.hs_some;exact⟨rfl,[],by simp only[jg];exact .nil sz',fun w' _=>run_firstCells_some w' sz' 0 q 0 cap [] (by simp) fun j x hx=>by simp at hx⟩
    ·obtain⟨⟨b',nb⟩,cap,hβ,hb0,rfl,hlc,hcn⟩:=hv.hs_pos h0;have hne:cs≠[]\/sz=0:=by
      rcases ON sz with hz|hz
      ·exact .inr hz
      ·refine .inl ?_;rintro rfl
       have:=PQ h0 hz
       simp at h2;omega
     -- the size of an element is that of the slice
     have hsz:sz'=sz:=by
      have hall:=Oc.1 hok (bif ag then .agg ((cs.drop off).take sz)else nth (cs.drop off) 0) (by
       cases len with
       |zero=>omega
       |succ n=>simp[jg])
      simp only[cE,NG,Ol]at hall;have hsa:=hall.1;have hle:sz<=(cs.drop off).length:=by
       have:1*sz<=len*sz:=NY _ h0;simp;omega
      cases ag with
      |true=>
       simp only[NF,cM,NB,Pb]at hsa;omega
      | false=>
       rcases hag with hag|hag
       ·cases hag
       ·subst hag;simp only[NQ]at hsa;have hc0:(cs.drop off)[0]? = some (nth (cs.drop off) 0):=by
         unfold nth;rw[NH (by omega),Oj,NH (by omega)];rfl
        have hoc:=Oc.1 h3 (nth (cs.drop off) 0) (Ov (i:=0) (by rw[N0,NE (by omega)];exact hc0));generalize nth (cs.drop off) 0=q at hsa hoc;cases q<;>simp[bh,cM]at hsa hoc<;>omega
     subst hsz;rcases hne with hne|hz
     ·obtain⟨z,j1,j2,j3,j4,j5⟩:=H.heap.cells hcs hne hβ hb0;rw[hβ]at j1;cases j1;have hzl:cs.length<=z.size:=by have:=j4.length;simp at this;omega
      have j6:bC S β (cs.drop off) ((z.toList.take cs.length).drop off):=j4.drop off;have hF:=pF hag len (cs.drop off) _ j6 (by simp;omega) h3;refine⟨rfl,_,hF,fun w' hw'=>?_⟩;refine run_firstCells_some w' sz' len ⟨b',off,none⟩ len cap _ (by simp;omega) fun j q hq=>?_;rw[addr_add,hw',j2.cell];rw[N0]at hq;split at hq
      ·rw[OL,N0]at hq;split at hq
       ·simpa using hq
       ·simp at hq
      ·simp at hq
     ·subst hz;rcases hag with rfl|hag
      ·have hall:∀n cs,dF S β (jg true 0 n cs) [] 0:=by
        intro n
        induction n with
        |zero=>intro cs;exact .nil 0
        | succ n ih=>
         intro cs;have:dF S β [AV.agg (cs.take 0)] [] 0:=⟨by simp,fun i e he=>by
          cases i with
          |zero=>
           simp only[Od,NB]at he;subst he;exact⟨.agg #[],by simp only[VR,Px];exact⟨[],rfl,by simp[bC]⟩,rfl,fun j x hx=>by simp[Value.cells]at hx⟩
          |succ i=>simp at he,fun x hx=>by simp at hx⟩
         exact this.append (ih _)
       exact⟨rfl,[],hall _ _,fun w' _=>run_firstCells_some w' 0 len _ len cap [] (by simp) fun j x hx=>by simp at hx⟩
      ·omega
 ·cases hsrc;exact od (P:=P) H.wf hv sz' [] rfl hok (fun s h=>by cases h)
 ·cases hsrc;exact od (P:=P) H.wf hv sz' _ rfl hok (fun s h=>by cases h)
 ·cases hsrc
theorem ta(hT:TOK P cx.T)(H:FR c N U e h a w S β γ lam ω)(hd:∀t,o.dst=some t->t<N)(hU:∀g,gid<=g->g<gid+1000->¬U g){t u:TypeId}{x y:Operand}{cc:Call}(ho:o.op= .call cc)(hb:cc.callee= .builtin .append)(hts:cc.argTypes.toList=[t,u])(hxs:cc.args.toList=[x,y])(hu:ia cx.T u=true){as:List AV}{vx:Value}{g0:Option Nat}{r Y:AV}(hav:a.eval x=vx)(hx:VR S β (.sl as) vx)(hfree:(g0=none/\vx= .slice none 0 0)\/∃g z,g0=some g/\pi S w ω g z vx/\vG z (dn cx.T t)=true)(happ:ck cx.T t (.sl as) Y=some r)(hsrc:vQ P S β w (a.eval y) Y):
  After P c N (UG U gid) (.ok (e.upd o.dst { Upd.own r gid (dn cx.T t)with drop:=g0 }) h) o a w:=by
 obtain⟨ti,el,ei,bs,ht,hk,hei,hels,hoa,hob,hby,hb0,rfl,hes,hstr⟩:=DW happ;rw[hes]at hfree |-;have hroom:qB w ei.size vx:=by
  rcases hfree with⟨_,rfl⟩|⟨g,z,_,hf,hz⟩
  ·exact⟨none,0,0,rfl,NL _,fun _=>rfl,.inl rfl⟩
  ·exact (tB hf hz).1
 obtain⟨hlen,cs,hflat,hfirst⟩:=hsrc ei.size bs hels hob (uf hstr);obtain⟨v,w',hrun,hA⟩:=yJ (ty:=o.type) hT H.wf ht hk hei hu hx hlen hflat hfirst hoa hby hb0 hroom;have hfr2:∃z,((g0=none/\vx= .slice none 0 0)\/∃g,g0=some g/\pi S w ω g z vx)/\(z=none\/z=some ei.size):=by
  rcases hfree with h1|⟨g,z,h1,hf,hz⟩
  ·exact⟨none,.inl h1,.inl rfl⟩
  ·exact⟨z,.inr ⟨g,h1,hf⟩,(tB hf hz).2⟩
 obtain⟨z,hf2,hz2⟩:=hfr2;obtain⟨S',ω',F⟩:=H.app hd hU hx hoa hf2 hz2 hA;exact After.val (eK ho hb hts hxs (by rw[hav];exact hrun)) ⟨_,_,_,_,_,F⟩
end
end Go.Av
namespace Go.Av
variable [Dr]
section
variable {P:Program} {cx:Cx} {c:Entry} {N:Nat} {U:Nat->Prop} {e:Env} {h:Hp} {a:Act} {w:World} {S:aE} {β:List bT} {γ:Nat->Value} {lam:Nat->Option Nat} {ω:Nat->Owner} {o:Oper} {gid:Nat}
omit [Dr]in
theorem rf{sz:Nat}{x:Array Value}:(es:List AV)->(off:Nat)->(∀(i:Nat)(e:AV),es[i]? = some e->∃v,VR S β e v/\v.cells.size=sz/\∀(j:Nat)(y:Value),v.cells[j]? = some y->x[off+i*sz+j]? = some y)->
  dw sz es=true->(es.flatMap aa).length=es.length*sz/\bC S β (es.flatMap aa) ((x.toList.drop off).take (es.length*sz))
 |[],off,_,_=>by simp[bC]
 | e:: es,off,hh,hok=>by
  simp only[dw,OT,NG]at hok;obtain⟨v,v1,v2,v3⟩:=hh 0 e (by simp);obtain⟨k1,k2,k3⟩:=kA hok.1 v1;obtain⟨h1,h2⟩:=rf es (off+sz) (fun i e' he=>by
   obtain⟨u,u1,u2,u3⟩:=hh (i+1) e' (by simpa using he);exact⟨u,u1,u2,fun j y hy=>by
    have:=u3 j y hy
    rwa [show off+(i+1)*sz+j=off+sz+i*sz+j by rw[Ow];omega]at this⟩) hok.2
  have hacl:(aa e).length=sz:=by rw[<- k2.length];simpa using k1
  refine⟨by simp[h1,hacl,Ow];omega,?_⟩;have hfirst:(x.toList.drop off).take sz=v.cells.toList:=by
   apply Pt;intro j;rw[N0];split
   ·rename_i hj;rw[OL,Oe,Oe];have:j<v.cells.size:=by omega
    have hv:=v3 j v.cells[j] (Og this);simp only[PS,Oi]at hv;rw[hv,Og this]
   ·rename_i hj;rw[NX];simp;omega
  have hsplit:(x.toList.drop off).take ((e:: es).length*sz)=v.cells.toList++(x.toList.drop (off+sz)).take (es.length*sz):=by
   rw[<- hfirst,Of,Ow,Nat.one_mul,Nat.add_comm (es.length*sz) sz,List.take_add,List.drop_drop]
  rw[hsplit,OV];exact k2.append h2
inductive AppRaw (w:World) (el sz n0 n:Nat) (olds news:List Value) (vx:Value):Value->World->Prop where
 |same (h:n=0):AppRaw w el sz n0 n olds news vx vx w
 | place (b off cap:Nat) (x:Array Value) (hv:vx= .slice (some ⟨b,off,none⟩) n0 cap) (hr:Row w b x) (hlt:n0+n<=cap) (hc:off+cap*sz<=x.size) (hn:n≠0):
   AppRaw w el sz n0 n olds news vx (.slice (some ⟨b,off,none⟩) (n0+n) cap)
    (w.setRow b (x.toList.take (off+n0*sz)++news++x.toList.drop (off+n0*sz+news.length)).toArray)
 | fresh (x:Array Value) (e cap:Nat) (hlt:n0+n<=cap) (hc:x.size=cap*sz) (hr:∀(i:Nat)(y:Value),(olds++news)[i]? = some y->x[i]? = some y) (hn:n≠0) (he:e=el):
   AppRaw w el sz n0 n olds news vx (.slice (some ⟨w.heap.size,0,none⟩) (n0+n) cap) (w.drew.alloc (.cells x e))
omit [Dr]in
theorem gg{T:TT}(hT:TOK P T){t u e ty:Nat}{ti ei:TI}{n0 n:Nat}{olds news:List Value}{vx vy:Value}(ht:T t=some ti)(hk:ti.kind= .slice e)(hei:T e=some ei)(hu:ia T u=true)(hvx:∃a cap,vx= .slice a n0 cap)(hlen:(Builtin.lenOf vy).run P w= .ok n w)(hfirst:∀w':World,(∀a:Addr,w'.cell? a=w.cell? a)->(Builtin.firstCells ei.size n vy).run P w'= .ok news.toArray w')(hold:∀w':World,(∀a:Addr,w'.cell? a=w.cell? a)->(Builtin.firstCells ei.size n0 vx).run P w'= .ok olds.toArray w')(hol:olds.length=n0*ei.size)(hnl:news.length=n*ei.size)(hone:∀x∈news,x.oneCell'=true)(hby:(n0+n)*ei.bytes<=140737488355328)(hb0:0<ei.bytes)(hroom:qB w ei.size vx):
  ∃v w',(Builtin.append_ #[t,u] ty #[vx,vy]).run P w= .ok v w'/\AppRaw w e ei.size n0 n olds news vx v w':=by
 obtain⟨_,d,_,_,hd,_,_,_,_,hkd,_⟩:=(hT.get ht).ex;have hd':d= .slice e:=by cases d<;>simp_all[kindOf]
 subst hd';obtain⟨ii,_,zz,hii,_,hzz,hzs,hsz,mP,_⟩:=(hT.get hei).ex;have hz:∃du,P.underlying u=some du/\((∃e',du= .slice e')\/du= .string):=by
  unfold ia at hu;split at hu
  ·rename_i tu htu;obtain⟨_,du,_,_,hdu,_,_,_,_,hku,_⟩:=(hT.get htu).ex;refine⟨du,hdu,?_⟩;split at hu
   ·rename_i e' hk';exact .inl ⟨e',by cases du<;>simp_all[kindOf]⟩
   ·exact .inr (by cases du<;>simp_all[kindOf])
   ·simp at hu
  ·simp at hu
 obtain⟨du,hdu,hduk⟩:=hz;obtain⟨a,len,cap,rfl,hlc,hnone,hspare⟩:=hroom;obtain⟨a',cap',he⟩:=hvx;simp only[Value.slice.injEq]at he;obtain⟨rfl,rfl,rfl⟩:=he;by_cases hfit:len+n<=cap
 ·by_cases hn0:n=0
  ·subst hn0;refine⟨.slice a len cap,w,?_,.same rfl⟩;have hns:news=[]:=NV (by simpa using hnl);subst hns;have hf:(Builtin.firstCells ei.size 0 vy).run P w= .ok #[] w:=by simpa using hfirst w (fun _=>rfl)
   rcases hduk with⟨e',rfl⟩|rfl<;>cases a <;>
    simp[Builtin.append_,run_underlying hd,run_underlying hdu,sizeOf,typeInfo,hii,hsz,hlen,hlc,hf,storeCells]
  ·rcases hspare with hsp|⟨b,off,x,rfl,⟨ce,hrow⟩,hcap⟩
   ·omega
   ·refine⟨_,_,?_,.place b off cap x rfl ⟨ce,hrow⟩ hfit hcap hn0⟩;have hf:=hfirst w (fun _=>rfl);have hle:(len+n)*ei.size<=cap*ei.size:=NY _ hfit;rw[Ow]at hle;have hst:=run_storeCells_at P b (off+len*ei.size) ce news 0 x w hrow (by omega) hone;simp only[Oi]at hst;rcases hduk with⟨e',rfl⟩|rfl <;>
     simp[Builtin.append_,run_underlying hd,run_underlying hdu,sizeOf,typeInfo,hii,hsz,hlen,hfit,hf,addr_add,hst]
 ·have hne:n≠0:=by rintro rfl;omega
  have hgt:cap<len+n:=by omega
  have h63:¬(9223372036854775807<((len:Int)+(n:Int))):=by
   have:=O0 (QV (len+n) hb0) hby
   omega
  have hfit48:=growslice_fits hgt hby;have h48:¬(281474976710656<Builtin.nextslicecap (len+n) cap*ei.bytes):=by omega
  have hb0':ei.bytes≠0:=by omega
  have hof:=hold w.drew (fun a=>World.cell?_drew ..);have hf:=hfirst w.drew (fun a=>World.cell?_drew ..);have hcapn:len+n<=grownCap w (len+n) cap e:=Nat.le_add_right _ _;have hzcs:(Builtin.zeroCells zz.cells (grownCap w (len+n) cap e-(len+n))).size=(grownCap w (len+n) cap e-(len+n))*ei.size:=by
   rw[size_zeroCells,hzs,hsz]
  refine⟨_,_,?_,.fresh ((olds++news).toArray++Builtin.zeroCells zz.cells (grownCap w (len+n) cap e-(len+n))) e (grownCap w (len+n) cap e) hcapn ?_ ?_ hne rfl⟩
  ·rcases hduk with⟨e',rfl⟩|rfl <;>
    (simp[Builtin.append_,run_underlying hd,run_underlying hdu,sizeOf,typeInfo,zeroValue,hii,hsz,hzz,hlen,hfit,mP,h48,hb0',Question.forced,hf,hof,newRow,grownCap]
     congr 2;apply PM;simp)
  ·rw[Array.size_append,hzcs];simp only[OQ,N3,hol,hnl];rw[<- Ow,<- Ow];congr 1;omega
  ·intro i y hy;rw[Array.getElem?_append];split
   ·simpa using hy
   ·rename_i hlt;rw[NX (by simpa using hlt)]at hy;simp at hy
end
end Go.Av
namespace Go.Av
variable [Dr]
section
variable {P:Program} {cx:Cx} {c:Entry} {N:Nat} {U:Nat->Prop} {e:Env} {h:Hp} {a:Act} {w:World} {S:aE} {β:List bT} {γ:Nat->Value} {lam:Nat->Option Nat} {ω:Nat->Owner} {o:Oper} {gid:Nat}
omit [Dr]in
theorem qa{es:List AV}{cs:List Value}{sz:Nat}(hf:dF S β es cs sz)(hok:dw sz es=true):(es.flatMap aa).length=es.length*sz/\bC S β (es.flatMap aa) cs:=by
 obtain⟨h1,h2,_⟩:=hf;obtain⟨g1,g2⟩:=rf (x:=cs.toArray) es 0 (fun i e he=>by
  obtain⟨v,v1,v2,v3⟩:=h2 i e he;exact⟨v,v1,v2,fun j y hy=>by rw[NU];exact v3 j y hy⟩) hok
 refine⟨g1,?_⟩;have:(cs.toArray.toList.drop 0).take (es.length*sz)=cs:=by simp[<- h1]
 rw[this]at g2;exact g2
theorem BA(hT:TOK P cx.T)(H:FR c N U e h a w S β γ lam ω)(hd:∀t,o.dst=some t->t<N){t n:Nat}{ps:Array (Nat×Operand)}(ho:o.op= .buildSlice t n ps)(ht:∀p∈ps.toList,∀t,p.2= .tmp t->t<1000)(hr:bi e o.dst (.dyn (uz cx.T t n (ps.toList.map fun p=>(p.1,opnd e p.2))) .ofV) h≠.fail):
  After P c N (UG U gid) (bi e o.dst (.dyn (uz cx.T t n (ps.toList.map fun p=>(p.1,opnd e p.2))) .ofV) h) o a w:=absurd rfl hr
theorem Ge(hT:TOK P cx.T)(H:FR c N U e h a w S β γ lam ω)(hd:∀t,o.dst=some t->t<N){t u:TypeId}{x y:Operand}{cc:Call}(ho:o.op= .call cc)(hb:cc.callee= .builtin .append)(hts:cc.argTypes.toList=[t,u])(hxs:cc.args.toList=[x,y])(hx:∀t,x= .tmp t->t<1000)(hy:∀t,y= .tmp t->t<1000)(hu:ia cx.T u=true)(hr:bi e o.dst (.dyn (appH cx.T t (iB e x) (opnd e x) (opnd e y)) .ofV) h≠.fail):After P c N (UG U gid) (bi e o.dst (.dyn (appH cx.T t (iB e x) (opnd e x) (opnd e y)) .ofV) h) o a w:=by
 have hvx:=bl H x hx;have hvy:=bl H y hy;simp only[bi,ae,M.pure]at hr |-
 have hz:iB e x=true->opnd e x= .sl []->∃a0,a.eval x= .slice a0 0 0:=by
  intro hz hX;unfold iB at hz;split at hz
  ·rename_i s;have hs1:=hx s rfl;have hs2:=H.slots s hs1;split at hz
   ·rename_i g hg;split at hz
    ·rename_i hal;obtain⟨a0,len,cap,e1,e2,e3,e4⟩:=H.free g none hal;have e5:=H.grps s g none hs1 hg hal;have e6:a.eval (.tmp s)=γ g:=e5;rw[hX]at hvx;simp only[VR]at hvx;obtain⟨a1,cap1,f1,f2,f3,_⟩:=hvx;rw[e6,e1]at f1;cases f1;rcases e4 with e4|⟨sz,_,_,_,e4,_⟩
     ·simp only[Ot]at e4;subst e4;exact⟨a0,by rw[e6,e1];rfl⟩
     ·cases e4
    ·cases hz
   ·cases hz
  ·cases hz
 generalize iB e x=zz at hr hz |-;generalize hX:opnd e x=X at hr hvx hz |-;unfold appH at hr |-;cases ht:cx.T t with
 |none=>rw[ht]at hr;exact absurd rfl hr
 | some ti =>
  rw[ht]at hr;simp only at hr |-;cases hk:ti.kind<;>rw[hk]at hr<;>simp only at hr |- <;> (try exact absurd rfl hr);rename_i el;cases hei:cx.T el with
  |none=>rw[hei]at hr;exact absurd rfl hr
  | some ei =>
   rw[hei]at hr;simp only at hr |-;cases hels:iQ (opnd e y)with
   |none=>rw[hels]at hr;exact absurd rfl hr
   | some bs =>
    rw[hels]at hr;simp only at hr |-;cases hc:(dw ei.size bs&&decide (0<ei.bytes)&&decide (0<ei.size)&&kO (opnd e y) ei.size)with
    |false=>rw[hc]at hr;exact absurd rfl hr
    | true =>
     rw[hc]at hr;simp only[NF]at hr |-;simp only[NG,Oa]at hc;obtain⟨⟨⟨h1,h2⟩,h3⟩,h4⟩:=hc;obtain⟨hlen,news,hflat,hfirst⟩:=src_ok (P:=P) H.wf hels hvy h1 (uf h4);obtain⟨hfl,hfv⟩:=qa hflat h1;have hfirst':∀w':World,(∀a:Addr,w'.cell? a=w.cell? a)->(Builtin.firstCells ei.size bs.length (a.eval y)).run P w'= .ok news.toArray w':=fun w' hw'=>
      hfirst w' (fun b o x hx=>by rw[hw'];exact H.wf b o x hx)
     have hna:ei.agg=false->ei.size=1:=by
      intro hag;obtain⟨ii,_,zz,_,_,_,hzs,hsz,_,_,_,_,_,_,_,hnn⟩:=(hT.get hei).ex;have hz1:zz.cells.size=1:=by cases zz<;>first|rfl|exact absurd rfl (hnn hag _)
      omega
     by_cases hXs:X= .sl []/\zz=true
     ·obtain⟨rfl,hzz⟩:=hXs;subst hzz;simp only[NF]at hr |-;obtain⟨a0,hvx0⟩:=hz rfl rfl;have hvr:=hvx
      replace hvx:=hvx0
      cases hbe:bs.isEmpty with
      | true=>
       have hbs:bs=[]:=by simpa using hbe
       subst hbs;simp only[NF];obtain⟨v,w',hrun,hA⟩:=gg (ty:=o.type) hT ht hk hei hu (n0:=0) (olds:=[]) ⟨a0,0,hvx⟩ hlen hfirst' (fun w' _=>by rw[hvx];cases a0 with|none=>simp[Builtin.firstCells]|some q=>exact run_firstCells_some w' _ 0 q 0 0 [] (by simp) (fun j x hx=>by simp at hx)) (by simp) hflat.1 hflat.2.2 (by simp) h2
        (by rw[hvx];exact⟨a0,0,0,rfl,NL _,fun _=>rfl,.inl rfl⟩)
       cases hA with
       |same _=>
        exact After.val (eK ho hb hts hxs hrun) (Np ⟨S,β,γ,lam,ω,H.setV hd hvr⟩)
       |place _ _ _ _ _ _ _ _ hn=>exact absurd rfl hn
       |fresh _ _ _ _ _ _ hn=>exact absurd rfl hn
      | false=>
       rw[hbe]at hr;simp only[NQ]at hr |-;cases hby:decide (bs.length*ei.bytes<=140737488355328)with
       |false=>rw[hby]at hr;exact absurd rfl hr
       | true=>
        simp only[NF];have hne:bs.length≠0:=by
         intro h0
         have:=NV h0
         subst this;simp at hbe
        obtain⟨v,w',hrun,hA⟩:=gg (ty:=o.type) hT ht hk hei hu (n0:=0) (olds:=[]) ⟨a0,0,hvx⟩ hlen hfirst' (fun w' _=>by rw[hvx];cases a0 with|none=>simp[Builtin.firstCells]|some q=>exact run_firstCells_some w' _ 0 q 0 0 [] (by simp) (fun j x hx=>by simp at hx)) (by simp) hflat.1 hflat.2.2 (by simpa using hby) h2
         (by rw[hvx];exact⟨a0,0,0,rfl,NL _,fun _=>rfl,.inl rfl⟩)
        cases hA with
        |same h0=>exact absurd h0 hne
        |place b off cap z hv _ hlt _ _=>rw[hvx]at hv;cases hv;omega
        | fresh z te cap hlt hzc hzr hn=>
         obtain⟨ω',F,hnew,hext⟩:=(H.drew).newH z te (cs:=bs.flatMap aa) (by
          refine .of_get ?_ fun i q v hq hv=>?_
          ·have:bs.length*ei.size<=cap*ei.size:=NY _ (by omega);rw[Pb];apply Qb;have hz':z.toList.length=cap*ei.size:=by simpa using hzc
           have hfl':(bs.flatMap aa).length=bs.length*ei.size:=hfl;rw[hz',hfl'];exact this
          ·obtain⟨v',h1',h2'⟩:=hfv.get hq
           have:=hzr i v' (by simpa using h1')
           rw[N0]at hv;split at hv
           ·rw[Oe,this]at hv;cases hv;exact h2'
           ·simp at hv) (fun t ht=>absurd ht (lB h1 t))
         have hnew':(β++[(w.drew.heap.size,z.size)])[h.length]? = some (w.heap.size,z.size):=hnew;refine After.val (eK ho hb hts hxs hrun) (Np ⟨_,_,γ,lam,ω',F.setV hd ?_⟩);simp only[VR];have hz0:z.size≠0:=by
          have:0<cap*ei.size:=PQ (by omega) h3;omega
         exact .inl ⟨(w.heap.size,z.size),cap,hnew',hz0,by simp,by omega,by simp[hzc]⟩
     by_cases hXn:X= .hn
     ·subst hXn;simp only at hr |-;simp only[VR]at hvx;cases hbe:bs.isEmpty with
      | true=>
       have hbs:bs=[]:=by simpa using hbe
       subst hbs;simp only[NF];obtain⟨v,w',hrun,hA⟩:=gg (ty:=o.type) hT ht hk hei hu (n0:=0) (olds:=[]) ⟨none,0,hvx⟩ hlen hfirst' (fun w' _=>by rw[hvx];simp[Builtin.firstCells]) (by simp) hflat.1 hflat.2.2 (by simp) h2
        (by rw[hvx];exact⟨none,0,0,rfl,NL _,fun _=>rfl,.inl rfl⟩)
       cases hA with
       |same _=>
        exact After.val (eK ho hb hts hxs hrun) (Np ⟨S,β,γ,lam,ω,H.setV hd (by simp only[VR];exact hvx)⟩)
       |place _ _ _ _ _ _ _ _ hn=>exact absurd rfl hn
       |fresh _ _ _ _ _ _ hn=>exact absurd rfl hn
      | false=>
       rw[hbe]at hr;simp only[NQ]at hr |-;cases hby:decide (bs.length*ei.bytes<=140737488355328)with
       |false=>rw[hby]at hr;exact absurd rfl hr
       | true=>
        simp only[NF];have hne:bs.length≠0:=by
         intro h0
         have:=NV h0
         subst this;simp at hbe
        obtain⟨v,w',hrun,hA⟩:=gg (ty:=o.type) hT ht hk hei hu (n0:=0) (olds:=[]) ⟨none,0,hvx⟩ hlen hfirst' (fun w' _=>by rw[hvx];simp[Builtin.firstCells]) (by simp) hflat.1 hflat.2.2 (by simpa using hby) h2
         (by rw[hvx];exact⟨none,0,0,rfl,NL _,fun _=>rfl,.inl rfl⟩)
        cases hA with
        |same h0=>exact absurd h0 hne
        |place b off cap z hv _ _ _ _=>rw[hvx]at hv;cases hv
        | fresh z te cap hlt hzc hzr hn=>
         obtain⟨ω',F,hnew,hext⟩:=(H.drew).newH z te (cs:=bs.flatMap aa) (by
          refine .of_get ?_ fun i q v hq hv=>?_
          ·have:bs.length*ei.size<=cap*ei.size:=NY _ (by omega);rw[Pb];apply Qb;have hz':z.toList.length=cap*ei.size:=by simpa using hzc
           have hfl':(bs.flatMap aa).length=bs.length*ei.size:=hfl;rw[hz',hfl'];exact this
          ·obtain⟨v',h1',h2'⟩:=hfv.get hq
           have:=hzr i v' (by simpa using h1')
           rw[N0]at hv;split at hv
           ·rw[Oe,this]at hv;cases hv;exact h2'
           ·simp at hv) (fun t ht=>absurd ht (lB h1 t))
         have hnew':(β++[(w.drew.heap.size,z.size)])[h.length]? = some (w.heap.size,z.size):=hnew;refine After.val (eK ho hb hts hxs hrun) (Np ⟨_,_,γ,lam,ω',F.setV hd ?_⟩);simp only[VR];have hz0:z.size≠0:=by
          have:0<cap*ei.size:=PQ (by omega) h3;omega
         exact .inl ⟨(w.heap.size,z.size),cap,hnew',hz0,by simp,by omega,by simp[hzc]⟩
     ·-- a row of the heap
      cases X with
      | hs l off len sz ag=>
       cases off with
       |succ k=>exact absurd rfl hr
       | zero =>
        simp only at hr |-;cases hcs:h[l]? with
        |none=>rw[hcs]at hr;exact absurd rfl hr
        | some cs=>
         rw[hcs]at hr;simp only at hr |-;cases hc2:(sz== ei.size&&ag== ei.agg&&cs.all bh&&decide (len*sz<=cs.length)&&decide (0<cs.length)&&decide ((len+bs.length)*ei.bytes<=140737488355328))with
         |false=>rw[hc2]at hr;exact absurd rfl hr
         | true=>
          simp only[NF];simp only[NG,Oa,Ol]at hc2;obtain⟨⟨⟨⟨⟨rfl,rfl⟩,k3⟩,k4⟩,k5⟩,k6⟩:=hc2;have hvx0:=hvx;have hne:cs≠[]:=by
           rintro rfl;simp at k5
          have hl:l<h.length:=by
           rcases N7 l h.length with h'|h'
           ·exact h'
           ·rw[NX h']at hcs;simp at hcs
          simp only[VR]at hvx;rcases hvx with⟨⟨b,nb⟩,cap,hβ,hb0,hvx,hlc,hcn⟩|⟨h00,q,hvx⟩
          ·obtain⟨z,j1,j2,j3,j4,j5⟩:=H.heap.cells hcs hne hβ hb0;rw[hβ]at j1;simp only[NB,OG,QA]at j1;subst j1;have hzs:cs.length<=z.size:=by have:=j4.length;simp at this;omega
           have hol:(z.toList.take (len*ei.size)).length=len*ei.size:=by simp;omega
           have j6:bC S β (cs.take (len*ei.size)) (z.toList.take (len*ei.size)):=by
            have:=j4.take (len*ei.size)
            rw[PR,Qb k4]at this;exact this
           have hcl:(cs.take (len*ei.size)).length=len*ei.size:=by simp;omega
           have hold:∀w':World,(∀a:Addr,w'.cell? a=w.cell? a)->(Builtin.firstCells ei.size len (a.eval x)).run P w'= .ok (z.toList.take (len*ei.size)).toArray w':=fun w' hw'=>by
            rw[hvx];refine run_firstCells_some w' ei.size len ⟨b,0,none⟩ len cap _ hol fun j q hq=>?_;rw[addr_add,NU,hw',j2.cell];rw[N0]at hq;split at hq
            ·simpa using hq
            ·simp at hq
           have hroom:qB w ei.size (a.eval x):=⟨_,len,cap,hvx,hlc,(fun h=>by cases h),.inr ⟨b,0,z,rfl,j2,hcn⟩⟩;obtain⟨v,w',hrun,hA⟩:=gg (ty:=o.type) hT ht hk hei hu (n0:=len) (olds:=z.toList.take (len*ei.size)) ⟨_,cap,hvx⟩ hlen hfirst' hold hol hflat.1 hflat.2.2 k6 h2 hroom;have hexec:=eK ho hb hts hxs hrun;cases hA with
           |same h0=>
            have hbs:bs=[]:=NV h0;subst hbs;simp only[QO,NF];exact After.val hexec (Np ⟨S,β,γ,lam,ω,H.setV hd hvx0⟩)
           | place b2 off2 cap2 z2 hv2 hr2 hlt2 hc2' hn2=>
            have hbe:bs.isEmpty=false:=by cases bs<;>simp_all
            rw[hbe];simp only[NQ];rw[hvx]at hv2;simp only[Value.slice.injEq,NB,Addr.mk.injEq]at hv2;obtain⟨⟨rfl,rfl,_⟩,_,rfl⟩:=hv2;cases j2.inj hr2;have hnl:=hflat.1;have hle:(len+bs.length)*ei.size<=cap*ei.size:=NY _ hlt2;rw[Ow]at hle;have hysz:(z.toList.take (0+len*ei.size)++news++z.toList.drop (0+len*ei.size+news.length)).toArray.size=z.size:=by simp;omega
            have hyv:bC S β (cs.take (len*ei.size)++bs.flatMap aa) ((z.toList.take (0+len*ei.size)++news++z.toList.drop (0+len*ei.size+news.length)).toArray.toList.take (cs.take (len*ei.size)++bs.flatMap aa).length):=by
             have hl1:(z.toList.take (0+len*ei.size)++news).length=(cs.take (len*ei.size)++bs.flatMap aa).length:=by
              rw[N3,N3,NU,hol,hcl,hfl,hnl]
             show bC S β _ (List.take _ (z.toList.take (0+len*ei.size)++news++z.toList.drop (0+len*ei.size+news.length)));rw[List.take_left' hl1,NU];exact j6.append hfv
            have hne2:cs.take (len*ei.size)++bs.flatMap aa≠[]:=by
             intro h0;have h1':=(List.append_eq_nil_iff.1 h0).2;rw[h1']at hfl;have:0<bs.length*ei.size:=PQ (Nat.pos_of_ne_zero fun h=>by rw[NV h]at hbe;cases hbe) h3;rw[Ot]at hfl;omega
            have hnb:∀t,¬dQ t (cs.take (len*ei.size)++bs.flatMap aa):=fun t ht=>by
             rcases ht.append with ht|ht
             ·exact jV k3 t (ht.mono fun a=>PN)
             ·exact lB h1 t ht
            have F1:=H.turnH hcs hne ⟨_,hβ⟩ j2 hysz hyv (fun t ht=>absurd ht (hnb t));have hcs1:(h.set l (cs.take (len*ei.size)++bs.flatMap aa))[l]? = some (cs.take (len*ei.size)++bs.flatMap aa):=by simp[hl]
            obtain⟨ω',F2,hnew,hext⟩:=F1.moveH hcs1 hne2 ⟨_,hβ⟩ j2.setRow hyv (fun t ht=>ht);have hset:(h.set l (cs.take (len*ei.size)++bs.flatMap aa)).set l []=h.set l []:=by simp
            rw[hset]at F2;rw[Pr]at hnew;refine After.val hexec (Np ⟨_,_,γ,lam,ω',F2.setV hd ?_⟩);simp only[VR];exact .inl ⟨_,cap,hnew,by simp only;rw[hysz];exact hb0,rfl,hlt2,by simp only;rw[hysz];exact hcn⟩
           | fresh z2 te cap2 hlt2 hzc hzr hn2=>
            have hbe:bs.isEmpty=false:=by cases bs<;>simp_all
            rw[hbe];simp only[NQ];have F1:=(H.drew).killH l;obtain⟨ω',F2,hnew,hext⟩:=F1.newH z2 te (cs:=cs.take (len*ei.size)++bs.flatMap aa) (by
             refine .of_get ?_ fun i q v hq hv=>?_
             ·have:(len+bs.length)*ei.size<=cap2*ei.size:=NY _ hlt2;rw[Ow]at this;rw[Pb,N3,hcl,hfl];apply Qb;have hz':z2.toList.length=cap2*ei.size:=by simpa using hzc
              omega
             ·obtain⟨v',h1',h2'⟩:=(j6.append hfv).get hq
              have:=hzr i v' h1'
              rw[N0]at hv;split at hv
              ·rw[Oe,this]at hv;cases hv;exact h2'
              ·simp at hv) (fun t ht=>absurd ht (fun ht=>by
             rcases ht.append with ht|ht
             ·exact jV k3 t (ht.mono fun a=>PN)
             ·exact lB h1 t ht))
            rw[Pr]at hnew;have hnew':(β++[(w.drew.heap.size,z2.size)])[h.length]? = some (w.heap.size,z2.size):=hnew;refine After.val hexec (Np ⟨_,_,γ,lam,ω',F2.setV hd ?_⟩);simp only[VR];have hz0:z2.size≠0:=by
             have:0<cap2*ei.size:=PQ (by omega) h3;omega
            exact .inl ⟨(w.heap.size,z2.size),cap2,hnew',hz0,rfl,hlt2,by simp[hzc]⟩
          ·subst h00;obtain⟨v,w',hrun,hA⟩:=gg (ty:=o.type) hT ht hk hei hu (n0:=0) (olds:=[]) ⟨some q,0,hvx⟩ hlen hfirst' (fun w' _=>by rw[hvx];exact run_firstCells_some w' _ 0 q 0 0 [] (by simp) (fun j x hx=>by simp at hx)) (by simp) hflat.1 hflat.2.2 k6 h2
            (by rw[hvx];exact⟨some q,0,0,rfl,NL _,fun _=>rfl,.inl rfl⟩)
           have hexec:=eK ho hb hts hxs hrun;cases hA with
           |same h0=>
            have hbs:bs=[]:=NV h0;subst hbs;simp only[QO,NF];exact After.val hexec (Np ⟨S,β,γ,lam,ω,H.setV hd hvx0⟩)
           |place b off cap z hv _ hlt _ hn=>
            rw[hvx]at hv;cases hv;have:bs.length≠0:=hn;omega
           | fresh z2 te cap2 hlt2 hzc hzr hn2=>
            have hbe:bs.isEmpty=false:=by cases bs<;>simp_all
            rw[hbe];simp only[NQ,PS,Px,N4];have F1:=(H.drew).killH l;obtain⟨ω',F2,hnew,hext⟩:=F1.newH z2 te (cs:=bs.flatMap aa) (by
             refine .of_get ?_ fun i q v hq hv=>?_
             ·have:bs.length*ei.size<=cap2*ei.size:=NY _ (by omega);rw[Pb,hfl];apply Qb;have hz':z2.toList.length=cap2*ei.size:=by simpa using hzc
              omega
             ·obtain⟨v',h1',h2'⟩:=hfv.get hq
              have:=hzr i v' (by simpa using h1')
              rw[N0]at hv;split at hv
              ·rw[Oe,this]at hv;cases hv;exact h2'
              ·simp at hv) (fun t ht=>absurd ht (lB h1 t))
            rw[Pr]at hnew;have hnew':(β++[(w.drew.heap.size,z2.size)])[h.length]? = some (w.heap.size,z2.size):=hnew;refine After.val hexec (Np ⟨_,_,γ,lam,ω',F2.setV hd ?_⟩);simp only[VR];have hz0:z2.size≠0:=by
             have:0<cap2*ei.size:=PQ (by omega) h3;omega
            exact .inl ⟨(w.heap.size,z2.size),cap2,hnew',hz0,by simp,by omega,by simp[hzc]⟩
      | sl es=>
       cases es with
       |nil=>
        cases zz with
        |true=>exact absurd ⟨rfl,rfl⟩ hXs
        |false=>exact absurd rfl hr
       |cons _ _=>exact absurd rfl hr
      |_=>first|exact absurd rfl hXn|exact absurd rfl hr
end
end Go.Av
namespace Go.Av
variable [Dr]
section
variable {P:Program} {cx:Cx} {c:Entry} {N:Nat} {U:Nat->Prop} {e:Env} {h:Hp} {a:Act} {w:World} {S:aE} {β:List bT} {γ:Nat->Value} {lam:Nat->Option Nat} {ω:Nat->Owner} {o:Oper} {gid:Nat}
theorem Gd(hT:TOK P cx.T)(H:FR c N U e h a w S β γ lam ω)(hd:∀t,o.dst=some t->t<N){t u:TypeId}{x y:Operand}{cc:Call}(ho:o.op= .call cc)(hb:cc.callee= .builtin .append)(hts:cc.argTypes.toList=[t,u])(hxs:cc.args.toList=[x,y])(hx:∀t,x= .tmp t->t<1000)(hy:∀t,y= .tmp t->t<1000)(hu:ia cx.T u=true)(hr:bi e o.dst (.dyn (Gc cx.T t (opnd e x) (opnd e y)) .ofV) h≠.fail):After P c N (UG U gid) (bi e o.dst (.dyn (Gc cx.T t (opnd e x) (opnd e y)) .ofV) h) o a w:=absurd rfl hr
end
end Go.Av
namespace Go.Av
variable [Dr]
section
variable {P:Program} {cx:Cx} {c:Entry} {N:Nat} {U:Nat->Prop} {e:Env} {h:Hp} {a:Act} {w:World} {S:aE} {β:List bT} {γ:Nat->Value} {lam:Nat->Option Nat} {ω:Nat->Owner} {o:Oper} {gid:Nat}
theorem FR.putH(H:FR c N U e h a w S β γ lam ω){l off b nb:Nat}{cs acs:List AV}{vs:List Value}(hcs:h[l]? = some cs)(hne:cs≠[])(hb:β[l]? = some (b,nb))(hb0:nb≠0)(hvs:bC S β acs vs)(hle:off+acs.length<=cs.length)(htag:∀t,¬dQ t acs):
  ∃z,Row w b z/\cs.length<=z.size/\FR c N U e (h.set l (setCells cs off acs)) a (w.setRow b (z.toList.take off++vs++z.toList.drop (off+vs.length)).toArray) S β γ lam ω:=by
 obtain⟨z,j1,j2,j3,j4,j5⟩:=H.heap.cells hcs hne hb hb0;rw[hb]at j1;cases j1;have hvl:=hvs.length;have hzs:cs.length<=z.size:=by
  have:=j4.length
  simp at this;omega
 refine⟨z,j2,hzs,H.turnH hcs hne ⟨_,hb⟩ j2 (by simp;omega) ?_ (fun t ht=>ht.setCells.resolve_right (htag t))⟩;rw[fj _ _ _ (by omega)];have hsp:bC S β (setCells cs off acs) (((z.toList.take cs.length).take off++vs++(z.toList.take cs.length).drop (off+vs.length))):=by
  unfold setCells;rw[hvl];exact ((j4.take off).append hvs).append (j4.drop _)
 have heq:(z.toList.take off++vs++z.toList.drop (off+vs.length)).take cs.length=
   (z.toList.take cs.length).take off++vs++(z.toList.take cs.length).drop (off+vs.length):=by
  rw[Py,Py];have e1:(z.toList.take off).length=off:=by simp;omega
  rw[PR,PR];have e2:min cs.length off=off:=by omega
  have e3:min off cs.length=off:=by omega
  rw[e2,e3,e1];have e4:vs.take (cs.length-off)=vs:=OY (by omega);rw[e4];congr 1;rw[Q2,N3,e1];congr 2;omega
 show bC S β _ (List.take _ _);rw[show (z.toList.take off++vs++z.toList.drop (off+vs.length)).toArray.toList=(z.toList.take off++vs++z.toList.drop (off+vs.length))from rfl,heq];exact hsp
theorem Ec(hT:TOK P cx.T)(H:FR c N U e h a w S β γ lam ω)(hd:∀t,o.dst=some t->t<N){cc:Call}(ho:o.op= .call cc)(hcal:cc.callee= .builtin .clear){t:TypeId}{ts:List TypeId}{x:Operand}{xs:List Operand}(hts:cc.argTypes.toList=t:: ts)(hxs:cc.args.toList=x:: xs)(hx:∀t,x= .tmp t->t<1000)(hr:bi e o.dst (.dyn (uD cx.T t (opnd e x)) .ofV) h≠.fail):After P c N (UG U gid) (bi e o.dst (.dyn (uD cx.T t (opnd e x)) .ofV) h) o a w:=absurd rfl hr
end
end Go.Av
namespace Go.Av
variable [Dr]
def cH(p:Upd->Prop):Act1->Prop
 |.bad=>True
 |.stat u=>p u
 |.dyn _ sh=>∀v,p (sh v)
 |.thr _=>True
omit [Dr]in
theorem cH.cond{p:Upd->Prop}{b:Bool}{x y:Act1}(h1:b=true->cH p x)(h2:b=false->cH p y):cH p (bif b then x else y):=by
 cases b with
 |true=>exact h1 rfl
 |false=>exact h2 rfl
structure Shape (e:Env) (gid:Nat) (f:Foot) (ss:Option Nat) (u:Upd):Prop where
 ls:f.wl=false->u.ls=[]
 lb:f.wl=false->u.lb=none
 unlb:f.wl=false->u.unlb=none
 add:f.wl=false->∀x∈u.add,x.1=gid
 noad:f.ad=false->u.add=[]
 nodr:f.dr=false->u.drop=none
 loc:f.wl=false->∀C off,u.ent.v= .loc C off->∃t off',(e.get t).v= .loc C off'
 keys:∀x∈u.ls,1000<=x.1\/ss=some x.1
omit [Dr]in
theorem Shape.ofV(e:Env)(gid:Nat)(f:Foot)(ss:Option Nat)(a:AV):Shape e gid f ss (.ofV a):=
 ⟨fun _=>rfl,fun _=>rfl,fun _=>rfl,fun _ x h=>by simp[Upd.ofV]at h,fun _=>rfl,fun _=>rfl,fun _ C off h=>by simp[Upd.ofV]at h,fun x h=>by simp[Upd.ofV]at h⟩
omit [Dr]in
theorem Shape.own(e:Env)(gid:Nat)(f:Foot)(ss:Option Nat)(a:AV)(z:Option Nat)(h:f.ad=true):Shape e gid f ss (.own a gid z):=
 ⟨fun _=>rfl,fun _=>rfl,fun _=>rfl,fun _ x h=>by simp[Upd.own]at h;rw[h],fun h'=>by(rw[h]at h';cases h'),fun _=>rfl,fun _ C off h=>by simp[Upd.own]at h,fun x h=>by simp[Upd.own]at h⟩
omit [Dr]in
theorem Shape.ent(e:Env)(gid:Nat)(f:Foot)(ss:Option Nat)(x:Ent)(h:∀C off,x.v= .loc C off->∃t off',(e.get t).v= .loc C off'):Shape e gid f ss { ent:=x } :=
 ⟨fun _=>rfl,fun _=>rfl,fun _=>rfl,fun _ x h=>by simp at h,fun _=>rfl,fun _=>rfl,fun _ C off h'=>h C off h',fun x h=>by simp at h⟩
omit [Dr]in
theorem Shape.get(e:Env)(gid:Nat)(f:Foot)(ss:Option Nat)(t:Nat):Shape e gid f ss { ent:=e.get t }:=.ent _ _ _ _ _ fun _ off h=>⟨t,off,h⟩
omit [Dr]in
theorem oM{B n gid:Nat}{cs:List AV}{offs:List Nat}(hB:1000<=B):∀x∈lz B cs offs gid n,1000<=x.1:=by
 intro x hx;unfold lz at hx;simp only[O4]at hx;obtain⟨i,_,rfl⟩:=hx;simp only;omega
omit [Dr]in
theorem wY{offs:List Nat}{gid:Nat}(h:offs.isEmpty=true):qc offs gid=[]:=by
 have:offs=[]:=by simpa using h
 subst this;rfl
variable {cx:Cx} {e:Env} {gid:Nat} {o:Oper}
omit [Dr]in
theorem rS(told:Bool)(x:Operand)(f:Foot)(hf:f.ad=bB x):cH (Shape e gid f none) (iY told e gid x):=by
 unfold iY;split
 ·exact Shape.get ..
 ·cases h:bB x with
  |true=>
   cases told with
   |true=>exact Shape.ofV ..
   |false=>exact Shape.own _ _ _ _ _ _ (by rw[hf,h])
  |false=>exact Shape.ofV ..
omit [Dr]in
theorem xd{e:Env}{B off n:Nat}(h:l5 e B off n=true):∃m,bN e.lb B=some m/\off+n<=m/\1000<=B:=by
 unfold l5 at h;split at h
 ·rename_i m hm;simp at h;exact⟨m,hm,h.1,h.2⟩
 ·simp at h
omit [Dr]in
theorem rJ(d:Option Tmp)(t:TypeId)(p:Nat)(f:Foot):cH (Shape e gid f none) (eq cx e d t p):=by
 unfold eq;split
 ·split
  ·trivial
  ·cases l5 e _ _ _ with
   |false=>trivial
   | true=>
    simp only[NF];rename_i ti _;cases ti.agg with
    |true=>exact Shape.ofV ..
    |false=>
     simp only[NQ];cases decide (ti.size=1)with
     |true=>exact Shape.get ..
     |false=>trivial
 ·cases cn cx.ann.hl d with
  |true=>exact fun v=>Shape.ofV ..
  |false=>exact fun v=>Shape.ofV ..
omit [Dr]in
theorem Shape.wl{e:Env}{gid:Nat}{f:Foot}{ss:Option Nat}{u:Upd}(hw:f.wl=true)(h1:f.ad=false->u.add=[])(h2:u.drop=none)(h3:∀x∈u.ls,1000<=x.1\/ss=some x.1):Shape e gid f ss u:=
 ⟨fun h=>by(rw[hw]at h;cases h),fun h=>by(rw[hw]at h;cases h),fun h=>by(rw[hw]at h;cases h),fun h=>by(rw[hw]at h;cases h),h1,fun _=>h2,fun h=>by(rw[hw]at h;cases h),h3⟩
omit [Dr]in
theorem yq(t p:Nat)(y:Operand)(f:Foot)(hw:f.wl=true)(ha:f.ad=(!(fE cx.ann.nils p).isEmpty||bB y)):cH (Shape e gid f (some p)) (fR cx e gid t p y):=by
 unfold fR;split
 ·rename_i B off _;split
  ·trivial
  ·rename_i ti _;cases hlb:l5 e B off ti.size with
   |false=>trivial
   | true=>
    obtain⟨m,_,_,hB⟩:=xd hlb;simp only[NF];cases B5 (cD cx.ann.kinds p .L)with
    | true=>
     simp only[NF];cases m7 e B off p ti.size with
     |false=>trivial
     |true=>
      simp only[NF];exact fun v=>Shape.wl hw (fun _=>rfl) rfl (fun x hx=>by simp at hx;exact .inr (by rw[hx]))
    | false=>
     simp only[NQ];cases ti.agg with
     |true=>
      simp only[NF];refine fun v=>Shape.wl hw (fun h=>?_) rfl (fun x hx=>.inl (oM (by omega) x hx));rw[ha]at h;simp only[P5,Bool.not_eq_false']at h;exact wY h.1
     | false=>
      simp only[NQ];cases decide (ti.size=1)with
      |false=>trivial
      | true=>
       simp only[NF];split
       ·split
        ·exact fun v=>Shape.wl hw (fun _=>rfl) rfl (fun x hx=>by simp at hx;rw[hx];exact .inl (by simp only;omega))
        ·trivial
       ·cases hn:bB y with
        |true=>
         refine Shape.wl hw (fun h=>?_) rfl (fun x hx=>by simp at hx;rw[hx];exact .inl (by simp only;omega));rw[ha,hn]at h;simp at h
        |false=>exact fun v=>Shape.wl hw (fun _=>rfl) rfl (fun x hx=>by simp at hx;rw[hx];exact .inl (by simp only;omega))
 ·exact fun v=>Shape.ofV ..
omit [Dr]in
theorem wC(t p i:Nat)(f:Foot):cH (Shape e gid f none) (iC cx e t p i):=by
 unfold iC;split
 ·rename_i B off hv;split
  ·trivial
  ·split
   ·trivial
   ·split
    ·trivial
    ·rename_i fi _;cases decide (fi.size=0)with
     |true=>trivial
     |false=>exact Shape.ent _ _ _ _ _ fun C o' h=>⟨p,off,by simp at h;rw[hv,h.1]⟩
 ·exact fun v=>Shape.ofV ..
omit [Dr]in
theorem xg(t p:Nat)(i:Operand)(f:Foot):cH (Shape e gid f none) (dI cx e t p i):=by
 unfold dI;split
 ·rename_i B off hv;split
  ·split
   ·split
    ·trivial
    ·refine cH.cond (p:=Shape e gid f none) (y:=.bad) (fun _=>?_) (fun _=>trivial);exact Shape.ent _ _ _ _ _ fun C o' h=>⟨p,off,by simp at h;rw[hv,h.1]⟩
   ·trivial
  ·trivial
 ·exact fun v=>Shape.ofV ..
omit [Dr]in
theorem vV(s t:Nat)(f:Foot)(hf:f=(match cD cx.ann.kinds s .L with|.F=>{}|.H=>{ wh:=true }|.B=>{ wh:=true }|_=>{ wl:=true,ad:=!(fE cx.ann.nils s).isEmpty })):cH (Shape e gid f none) (fO cx e gid s t):=by
 unfold fO;split
 ·trivial
 ·rename_i ti _;have key:f.wl=true->(f.ad= !(fE cx.ann.nils s).isEmpty)->cH (Shape e gid f none) (match fE cx.ann.nils s with
   | offs=>bif decide (ti.size<1000)&&bw e.sl (bL s)&&kz (dU true ti) offs ti.size then
     .stat { ent:=⟨.loc (bL s) 0,none⟩,ls:=lz (bL s) (dU (eI cx.ann.hb s) ti) offs gid ti.size,add:=qc offs gid,lb:=some (bL s,ti.size) }else .bad):=by
   intro hw ha;simp only;cases decide (ti.size<1000)&&bw e.sl (bL s)&&kz (dU true ti) (fE cx.ann.nils s) ti.size with
   |false=>trivial
   |true=>exact Shape.wl hw (fun h=>wY (by rw[ha]at h;simpa using h)) rfl (fun x hx=>.inl (oM (by unfold bL;omega) x hx))
  cases hk:cD cx.ann.kinds s .L with
  |F=>exact Shape.ofV ..
  |H=>exact fun v=>Shape.ofV ..
  |B=>exact fun v=>Shape.ofV ..
  |L=>rw[hk]at hf;exact key (by rw[hf]) (by rw[hf])
  |S=>rw[hk]at hf;exact key (by rw[hf]) (by rw[hf])
omit [Dr]in
theorem Bz(s t:Nat)(x:Operand)(f:Foot)(hf:f=(match cD cx.ann.kinds s .F with|.F=>{}|.H=>{ wh:=true }|.B=>{ wh:=true }|_=>{ wl:=true })):cH (Shape e gid f none) (lD cx e s t x):=by
 unfold lD;have key:f.wl=true->cH (Shape e gid f none) (match cx.T t with
  |none=>.bad
  | some ti=>bif decide (ti.size<1000)&&bw e.sl (bL s)then
    .dyn (aK ti.size (opnd e x)) fun v=>{ ent:=⟨.loc (bL s) 0,none⟩,ls:=lz (bL s) (aa v) [] 0 ti.size,lb:=some (bL s,ti.size) }
   else .bad):=by
  intro hw;split
  ·trivial
  ·rename_i ti _;cases decide (ti.size<1000)&&bw e.sl (bL s)with
   |false=>trivial
   |true=>exact fun v=>Shape.wl hw (fun _=>rfl) rfl (fun x hx=>.inl (oM (by unfold bL;omega) x hx))
 cases hk:cD cx.ann.kinds s .F with
 |F=>exact Shape.ofV ..
 |H=>exact fun v=>Shape.ofV ..
 |B=>trivial
 |L=>rw[hk]at hf;exact key (by rw[hf])
 |S=>rw[hk]at hf;exact key (by rw[hf])
omit [Dr]in
theorem yR(c:Call)(f:Foot)(ho:o.op= .call c)(hf:f=aC cx o):cH (Shape e gid f none) (fP cx e gid o c):=by
 unfold fP;cases hc:c.callee with
 |invoke r m=>trivial
 | value x=>
  cases x with
  | func g=>
   simp only;refine cH.cond (fun _=>cH.cond (fun _ v=>Shape.ofV ..) (fun _=>trivial)) fun _=>?_;intro v;cases ho':cx.own g with
   |none=>exact Shape.ofV ..
   |some z=>
    refine Shape.own _ _ _ _ _ _ ?_;rw[hf];unfold aC;rw[ho];simp only[hc,ho'];cases cx.iso g<;>rfl
  |tmp t=>exact fun v=>Shape.ofV ..
  |const t=>exact fun v=>Shape.ofV ..
  |global t=>exact fun v=>Shape.ofV ..
 | builtin b=>
  cases b<;>simp only<;>(try trivial)
  case clear=>
   split
   ·exact fun v=>Shape.ofV ..
   ·trivial
  case append=>
   split
   ·rename_i t u x y hts hxs;cases ia cx.T u with
    |false=>trivial
    | true =>
     simp only[Pv,NQ];cases hha:cn cx.ann.ha o.dst with
     |true=>exact fun v=>Shape.ofV ..
     | false=>
      have hfa:f.ad=true/\f.wl=false/\f.dr= !bB x:=by
       rw[hf];unfold aC;rw[ho];simp only[hc,hha,NQ,hxs];exact⟨trivial,trivial,trivial⟩
      cases hn:bB x with
      |true=>exact fun v=>Shape.own _ _ _ _ _ _ hfa.1
      | false=>
       simp only[NQ];split
       ·split
        ·trivial
        ·split
         ·trivial
         ·rename_i z _;cases vG z (dn cx.T t)with
          |false=>trivial
          |true=>
           simp only[NF];intro v;have hdr:f.dr=true:=by rw[hfa.2.2,hn];rfl
           exact⟨fun _=>rfl,fun _=>rfl,fun _=>rfl,fun _ x h=>by simp[Upd.own]at h;rw[h],fun h'=>by(rw[hfa.1]at h';cases h'),fun h'=>by(rw[hdr]at h';cases h'),fun _ C off h=>by simp[Upd.own]at h,fun x h=>by simp[Upd.own]at h⟩
       ·trivial
   ·trivial
  case len=>
   split
   ·exact fun v=>Shape.ofV ..
   ·trivial
  case min=>exact fun v=>Shape.ofV ..
  case max=>exact fun v=>Shape.ofV ..
omit [Dr]in
theorem BS(f:Foot)(ss:Option Nat)(A:Act1):cH (Shape e gid f ss) (Kx A):=by
 cases A with
 |bad=>trivial
 |stat u=>exact fun v=>Shape.ofV ..
 |dyn m sh=>exact fun v=>Shape.ofV ..
 |thr v=>trivial
omit [Dr]in
theorem lV(cx:Cx)(e:Env)(gid:Nat)(o:Oper):cH (Shape e gid (aC cx o) (cG o)) (fQ cx e gid o):=by
 have hss:(∀t p y,o.op≠.store t (.tmp p) y)->cG o=none:=by
  intro h;unfold cG;split
  ·rename_i t p y hq;exact absurd hq (h t p y)
  ·rfl
 unfold fQ;cases ho:o.op
 case store t x y=>
  simp only;cases x<;>(try trivial);rename_i p;cases hd:o.dst with
  |some d=>trivial
  |none=>
   have h1:cG o=some p:=by unfold cG;rw[ho]
   rw[h1];exact cH.cond (fun _=>trivial) fun _=>yq t p y _ (by unfold aC;rw[ho]) (by unfold aC;rw[ho])
 all_goals
  have hs0:=hss (by rw[ho];intros;simp);rw[hs0];simp only
 case move x=>exact rS _ x _ (by unfold aC;rw[ho])
 case assign x=>exact rS _ x _ (by unfold aC;rw[ho])
 case box t x=>
  cases hd:o.dst with
  |none=>trivial
  |some s=>exact Bz s t x _ (by unfold aC;rw[ho];simp only[hd];cases cD cx.ann.kinds s .F<;>rfl)
 case alloc t=>
  cases hd:o.dst with
  |none=>trivial
  |some s=>exact vV s t _ (by unfold aC;rw[ho];simp only[hd];cases cD cx.ann.kinds s .L<;>rfl)
 case load t x=>cases x<;>first|exact cH.cond (fun _=>trivial) (fun _=>cH.cond (fun _=>BS _ _ _) (fun _=>rJ ..))|trivial
 case buildSlice=>
  cases hha:cn cx.ann.ha o.dst with
  |true=>exact fun v=>Shape.ofV ..
  |false=>
   intro v;cases hno:cn cx.ann.no o.dst with
   |true=>exact Shape.ofV ..
   |false=>exact Shape.own _ _ _ _ _ _ (by unfold aC;rw[ho];simp[hno,hha])
 case makeSlice=>exact fun v=>Shape.own _ _ _ _ _ _ (by unfold aC;rw[ho])
 case slice t x lo hi mx=>
  cases hso:cn cx.ann.so o.dst with
  | true=>
   simp only[NF];unfold nS;have hf:aC cx o= { ad:=true,dr:=true }:=by unfold aC;rw[ho];simp only[hso,NF]
   rw[hf];split
   ·split
    ·trivial
    ·split
     ·exact cH.cond (fun _ v=>⟨fun _=>rfl,fun _=>rfl,fun _=>rfl,fun _ x h=>by simp[Upd.own]at h;rw[h],fun h'=>(by cases h'),fun h'=>(by cases h'),fun _ C off h=>by simp[Upd.own]at h,fun x h=>by simp[Upd.own]at h⟩) fun _=>trivial
     ·trivial
   ·trivial
  |false=>
  simp only[NQ];cases mx with
  |none=>exact fun v=>Shape.ofV ..
  |some m=>exact fun v=>Shape.own _ _ _ _ _ _ (by unfold aC;rw[ho];simp only[hso,NQ];rfl)
 case nilCheck x=>
  cases x<;>(try trivial);simp only;split
  ·exact Shape.get ..
  ·exact fun v=>Shape.ofV ..
 case fieldAddr t x i=>cases x<;>first|exact wC ..|trivial
 case indexAddr t x i=>cases x<;>first|exact xg ..|trivial
 case call c=>exact yR c _ ho rfl
 case panic x=>exact fun v=>Shape.ofV ..
 case makeFunc=>exact Shape.ofV ..
 case makeMap=>exact cH.cond (fun _=>trivial) fun _ v=>Shape.ofV ..
 case mapUpdate=>unfold lE;split;exact fun v=>Shape.ofV ..;trivial
 case insert=>unfold lE;split;exact fun v=>Shape.ofV ..;trivial
 case binOp=>exact cH.cond (fun _=>trivial) fun _ v=>Shape.ofV ..
 all_goals first|trivial|exact fun v=>Shape.ofV ..
end Go.Av
namespace Go.Av
mutual
theorem wj{S S':aE}{β β':List bT}{g:Nat->Nat->Nat->Nat->Bool->AV}(hS:S.le S')(hg:∀l off len sz ag v,VR S β (.hs l off len sz ag) v->VR S' β' (g l off len sz ag) v):(a:AV)->(v:Value)->VR S β a v->VR S' β' (cl g a) v
 |.any,_,_=>by simp[cl,VR]
 |.bool _,_,x=>by simpa [cl,VR]using x
 |.int _ _,_,x=>by simpa [cl,VR]using x
 |.str _,_,x=>by simpa [cl,VR]using x
 |.nilp,_,x=>by simpa [cl,VR]using x
 |.nilf,_,x=>by simpa [cl,VR]using x
 |.nili,_,x=>by simpa [cl,VR]using x
 |.mp _,_,_=>by simp[cl,VR]
 |.it _,_,_=>by simp[cl,VR]
 |.nilm,_,x=>by simpa [cl,VR]using x
 |.nilb _,_,x=>by simpa [cl,VR]using x
 |.byt _ _,_,x=>by simpa [cl,VR]using x
 |.agg cs,v,x=>by
  simp only[cl,VR]at x |-;obtain⟨vs,rfl,y⟩:=x;exact⟨vs,rfl,mF hS hg cs vs y⟩
 |.tup cs,v,x=>by
  simp only[cl,VR]at x |-;obtain⟨vs,rfl,y⟩:=x;exact⟨vs,rfl,mF hS hg cs vs y⟩
 |.sl es,v,x=>by
  simp only[cl,VR]at x |-;obtain⟨a,cap,rfl,hc,hn,hq⟩:=x;have hl:(eV g es).length=es.length:=qR g es;refine⟨a,cap,by rw[hl],by rw[hl];exact hc,hn,fun q e=>?_⟩;obtain⟨hs,sz,he⟩:=hq q e;exact⟨hs,sz,Ei hS hg es _ _ _ he⟩
 |.ip cs,v,x=>by
  simp only[cl,VR]at x |-;obtain⟨b,off,vs,rfl,y,z⟩:=x;exact⟨b,off,vs,rfl,mF hS hg cs vs y,z.mono hS⟩
 |.hp l off,v,x=>by simp[cl,VR]
 |.hn,v,x=>by
  simp only[cl,VR]at x |-;exact⟨none,0,x,NL _,fun _=>rfl,fun q hq=>by cases hq⟩
 |.hs l off len sz ag,v,x=>by
  simp only[cl];exact hg l off len sz ag v x
 |.fn f a c,v,x=>by
  simp only[cl,VR]at x |-;obtain⟨x,y,rfl,hx,hy⟩:=x;exact⟨x,y,rfl,mF hS hg a x hx,mF hS hg c y hy⟩
 |.iface t a,v,x=>by
  simp only[cl,VR]at x |-;obtain⟨y,rfl,hy⟩:=x;exact⟨y,rfl,wj hS hg a y hy⟩
theorem qR(g:Nat->Nat->Nat->Nat->Bool->AV):(cs:List AV)->(eV g cs).length=cs.length
 |[]=>rfl
 |c:: cs=>by simp[eV,qR g cs]
theorem mF{S S':aE}{β β':List bT}{g:Nat->Nat->Nat->Nat->Bool->AV}(hS:S.le S')(hg:∀l off len sz ag v,VR S β (.hs l off len sz ag) v->VR S' β' (g l off len sz ag) v):(cs:List AV)->(vs:List Value)->bC S β cs vs->bC S' β' (eV g cs) vs
 |[],_,x=>by simpa [eV,bC]using x
 |c:: cs,vs,x=>by
  simp only[eV,bC]at x |-;obtain⟨y,ys,rfl,hy,hys⟩:=x;exact⟨y,ys,rfl,wj hS hg c y hy,mF hS hg cs ys hys⟩
theorem Ei{S S':aE}{β β':List bT}{g:Nat->Nat->Nat->Nat->Bool->AV}(hS:S.le S')(hg:∀l off len sz ag v,VR S β (.hs l off len sz ag) v->VR S' β' (g l off len sz ag) v):(es:List AV)->(b off sz:Nat)->bZ S β es b off sz->bZ S' β' (eV g es) b off sz
 |[],_,_,_,_=>by simp[eV,bZ]
 |e:: es,b,off,sz,x=>by
  simp only[eV,bZ]at x |-;obtain⟨⟨v,hv,hs,hc⟩,hes⟩:=x;exact⟨⟨v,wj hS hg e v hv,hs,hc.mono hS⟩,Ei hS hg es b (off+sz) sz hes⟩
end
variable [Dr]
omit [Dr]in
theorem Eb{S:aE}{β:List bT}{args:List AV}{vs:List Value}(h:bC S β args vs):bC S [] (eV aw args) vs:=
 mF (aE.le_refl S) (fun _ _ _ _ _ _ _=>by simp[aw,VR]) args vs h
omit [Dr]in
theorem vd{S:aE}{β:List bT}{a:AV}{v:Value}(h:bh a=true)(hv:VR S β a v):v.cells= #[v]:=by
 cases a<;>simp only[bh,NC]at h<;>simp only[VR]at hv
 case bool=>subst hv;rfl
 case int=>subst hv;rfl
 case str=>obtain⟨x,rfl,_⟩:=hv;rfl
 case nilp=>subst hv;rfl
 case nilf=>subst hv;rfl
 case nili=>subst hv;rfl
 case sl=>obtain⟨x,c,rfl,_⟩:=hv;rfl
 case ip=>obtain⟨b,o,vs,rfl,_⟩:=hv;rfl
 case hp=>obtain⟨b,_,_,rfl⟩:=hv;rfl
 case mp=>obtain⟨b,_,_,rfl⟩:=hv;rfl
 case nilm=>subst hv;rfl
 case hs=>rcases hv with⟨b,c,_,_,rfl,_⟩|⟨_,_,rfl⟩<;>rfl
 case hn=>subst hv;rfl
 case fn=>obtain⟨x,y,rfl,_⟩:=hv;rfl
 case iface=>obtain⟨x,rfl,_⟩:=hv;rfl
omit [Dr]in
theorem uN{S S2:aE}{β β2:List bT}{w:World}{ω:Nat->Owner}{h:Hp}(hH:eE S β w ω h)(hS:S.le S2)(h2:∀(b o:Nat)(x:Array Value),ct β h b->Row w b x->S2 b o=x[o]?):∀(d:Nat)(a:AV)(v:Value),VR S β a v->VR S2 β2 (oH d h a) v
 |0,a,v,hv=>wj hS (fun _ _ _ _ _ _ _=>by simp[aw,VR]) a v hv
 | d + 1,a,v,hv=>by
  refine wj hS (fun l off len sz ag u hu=>?_) a v hv;cases hl:h[l]? with
  |none=>simp[VR]
  | some cs=>
   simp only;cases hc:(decide (off+len*sz<=cs.length)&&decide (0<sz)&&(ag||(Nat.beq sz 1&&cs.all bh)))with
   |false=>simp[VR]
   | true=>
    simp only[NG,Oa,Ox]at hc;obtain⟨⟨hc1,hc2⟩,hc3⟩:=hc;simp only[NF];simp only[VR]at hu |-;rcases hu with⟨⟨b,nb⟩,cap,hβ,hb0,rfl,hlc,hcn⟩|⟨h00,q0,rfl⟩
    rotate_left
    ·subst h00;exact⟨some q0,0,rfl,NL _,fun _=>rfl,fun q hq=>⟨fun h=>absurd h (by omega),sz,trivial⟩⟩
    refine⟨some ⟨b,off,none⟩,cap,by simp,by simpa using hlc,(fun hh=>by cases hh),fun q hq=>?_⟩;simp only[NB]at hq;subst hq;refine⟨fun _=>rfl,sz,.of_get fun i e he=>?_⟩;have hi:i<len:=by
     rcases N7 i len with h'|h'
     ·exact h'
     ·rw[NX (by simpa using h')]at he;cases he
    rw[Ou,List.getElem?_range hi]at he;simp only[Oo,NB]at he;have hile:off+i*sz+sz<=cs.length:=by
     have:(i+1)*sz<=len*sz:=NY _ hi;rw[Ow]at this;omega
    have hne:cs≠[]:=by rintro rfl;simp at hile;omega
    obtain⟨x,k1,k2,k3,k4,k5⟩:=hH.cells hl hne hβ hb0;rw[hβ]at k1;simp only[NB,OG,QA]at k1;subst k1;have hx:=k4.length;simp only[Pb,OD]at hx;have hS2:∀o,S2 b o=x[o]?:=fun o=>h2 b o x ⟨l,cs,_,hl,hne,hβ⟩ k2;subst he;cases ag with
    | true=>
     simp only[NF];have hsub:=(k4.drop (off+i*sz)).take sz;refine⟨.agg (((x.toList.take cs.length).drop (off+i*sz)).take sz).toArray,uN hH hS h2 d _ _ (by simp only[VR];exact⟨_,rfl,hsub⟩),?_,fun j y hy=>?_⟩
     ·simp[Value.cells];omega
     ·simp only[Value.cells]at hy;rw[N0]at hy;split at hy
      ·rw[OL,N0]at hy;split at hy
       ·rw[hS2];simpa using hy
       ·cases hy
      ·cases hy
    | false=>
     simp only[NQ];simp only[NC,false_or]at hc3;have hsz:sz=1:=NR hc3.1;subst hsz;have hlt:off+i*1<cs.length:=by omega
     have hcs:cs[off+i*1]? = some (nth cs (off+i*1)):=by unfold nth;rw[Oj,NH hlt];rfl
     obtain⟨y,hy1,hy2⟩:=k4.get hcs;have hok:=Oc.1 hc3.2 _ (Ov hcs);have hcells:=vd hok hy2;refine⟨y,uN hH hS h2 d _ _ hy2,by rw[hcells];rfl,fun j z hz=>?_⟩;rw[hcells]at hz;cases j with
     |zero=>
      simp only[Od,NB]at hz;subst hz;rw[hS2,Oi];rw[N0,NE hlt]at hy1;rw[<- hy1];simp
     |succ j=>simp at hz
theorem FR.weak{c:Entry}{N:Nat}{U:Nat->Prop}{e e2:Env}{h:Hp}{a:Act}{w:World}{S:aE}{β:List bT}{γ:Nat->Value}{lam:Nat->Option Nat}{ω:Nat->Owner}(H:FR c N U e h a w S β γ lam ω)(hv:∀t,(e2.get t).v=(e.get t).v\/(e2.get t).v= .val .any/\t<1000)(hg:∀t g,(e2.get t).g=some g->(e.get t).g=some g)(hal:∀g z,aV e2.al g=some z->aV e.al g=some z)(hlb:∀B n,bN e2.lb B=some n->bN e.lb B=some n):FR c N U e2 h a w S β γ lam ω:=by
 refine⟨H.wf,H.gro,H.keep,H.le,H.ext,H.hlen,H.heap,H.tsz,fun t ht=>?_,fun t g z ht hgg hz=>H.grps t g z ht (hg t g hgg) (hal g z hz),fun B n hB=>?_,fun g z hz=>H.free g z (hal g z hz),H.mine,⟨fun t g hgg=>H.used.1 t g (hg t g hgg),fun g z hz=>H.used.2 g z (hal g z hz)⟩⟩
 ·rcases hv t with h1|⟨h1,_⟩
  ·rw[h1];exact H.slots t ht
  ·rw[h1];simp[fB,VR]
 ·obtain⟨h1,h2,h3,b,x,h4,h5,h6,h7,h8⟩:=H.lblk B n (hlb B n hB);refine⟨h1,h2,h3,b,x,h4,h5,h6,h7,fun i hi=>?_⟩;obtain⟨v,a',g1,g2,g3,g4⟩:=h8 i hi;refine⟨v,a',g1,?_,g3,fun g z hgg hz=>g4 g z (hg _ g hgg) (hal g z hz)⟩;rcases hv (B+i)with k1|⟨_,k1⟩
  ·rw[k1];exact g2
  ·omega
theorem FR.acts{c:Entry}{N:Nat}{U:Nat->Prop}{e:Env}{h:Hp}{a a2:Act}{w:World}{S:aE}{β:List bT}{γ:Nat->Value}{lam:Nat->Option Nat}{ω:Nat->Owner}(H:FR c N U e h a w S β γ lam ω)(ht:a2.tmps=a.tmps):FR c N U e h a2 w S β γ lam ω:=
 ⟨H.wf,H.gro,H.keep,H.le,H.ext,H.hlen,H.heap,by rw[ht];exact H.tsz,fun t h=>by rw[ht];exact H.slots t h,fun t g z h=>by rw[ht];exact H.grps t g z h,H.lblk,H.free,H.mine,H.used⟩
open Classical in
theorem FR.freeze{c:Entry}{N:Nat}{U:Nat->Prop}{e:Env}{h:Hp}{a:Act}{w:World}{S:aE}{β:List bT}{γ:Nat->Value}{lam:Nat->Option Nat}{ω:Nat->Owner}(H:FR c N U e h a w S β γ lam ω):
  ∃S2 ω2,FR c N U e (h.map fun _=>[]) a w S2 β γ lam ω2/\∀v u,VR S β v u->VR S2 β (oH 6 h v) u:=by
 let S2:aE:=fun b o=>if ct β h b then w.cell? ⟨b,o,none⟩else S b o;let ω2:Nat->Owner:=fun b=>if ct β h b then .no else ω b;have hn:∀b,¬ct β h b->∀o,S2 b o=S b o:=fun b hb o=>if_neg hb;have hy:∀b,ct β h b->∀o,S2 b o=w.cell? ⟨b,o,none⟩:=fun b hb o=>NE hb;have hωn:∀b,¬ct β h b->ω2 b=ω b:=fun b hb=>if_neg hb;have hωy:∀b,ct β h b->ω2 b= .no:=fun b hb=>NE hb;have hho:∀b,ct β h b->∃l,ω b= .heap l:=fun b hb=>by obtain⟨l,_,h1,_⟩:=H.hown hb;exact⟨l,h1⟩
 have hno:∀b,(∀l,ω b≠.heap l)->¬ct β h b:=fun b hb ho=>by obtain⟨l,hl⟩:=hho b ho;exact hb l hl
 have hle:S.le S2:=by
  intro b o v hv;by_cases hb:ct β h b
  ·obtain⟨l,x,_,_,_,h5⟩:=H.hown hb;rw[h5]at hv;cases hv
  ·rw[hn b hb];exact hv
 have hwf:Wf S2 w:=by
  intro b o v hv;by_cases hb:ct β h b
  ·rw[hy b hb]at hv;exact hv
  ·rw[hn b hb]at hv;exact H.wf b o v hv
 refine⟨S2,ω2,⟨hwf,H.gro,fun b hb hE=>⟨(H.keep b hb hE).1,fun o=>?_⟩,aE.le_trans H.le hle,H.ext,by simp[H.hlen],fun l cs hl hcs=>?_,H.tsz,fun t ht=>?_,H.grps,fun B n hB=>?_,fun g z hg=>?_,fun b hb=>?_,H.used⟩,fun v u hv=>?_⟩
 ·have:¬ct β h b:=fun ho=>by
   obtain⟨l,hl⟩:=hho b ho;rcases (H.mine b (by rw[hl];simp)).1.low with h1|h1
   ·exact hE h1
   ·omega
  rw[hn b this];exact (H.keep b hb hE).2 o
 ·rw[Ou]at hl;cases hq:h[l]? with
  |none=>rw[hq]at hl;cases hl
  |some x=>rw[hq]at hl;simp at hl;exact absurd hl (fun hh=>hcs hh)
 ·have:=H.slots t ht
  cases hv:(e.get t).v with
  |val av=>rw[hv]at this;exact VR.mono hle (fm.refl β) _ _ this
  |loc B off=>rw[hv]at this;exact this
 ·obtain⟨h1,h2,h3,b,x,h4,h5,h6,h7,h8⟩:=H.lblk B n hB;have hb:=hno b (fun l hl=>by rw[h6]at hl;cases hl);refine⟨h1,h2,h3,b,x,h4,h5,by rw[hωn b hb];exact h6,fun o=>by rw[hn b hb];exact h7 o,fun i hi=>?_⟩;obtain⟨v,a',g1,g2,g3,g4⟩:=h8 i hi;exact⟨v,a',g1,g2,VR.mono hle (fm.refl β) _ _ g3,g4⟩
 ·obtain⟨a',len,cap,h1,h2,h3,h4⟩:=H.free g z hg;refine⟨a',len,cap,h1,h2,h3,h4.imp id ?_⟩;rintro⟨sz,b,off,x,g1,g2,g3,g4,g5,g6⟩;have hb:=hno b (fun l hl=>by rw[g5]at hl;cases hl);exact⟨sz,b,off,x,g1,g2,g3,g4,by rw[hωn b hb];exact g5,fun o ho=>by rw[hn b hb];exact g6 o ho⟩
 ·by_cases ho:ct β h b
  ·exact absurd (hωy b ho) hb
  ·have hb':ω b≠.no:=by rw[<- hωn b ho];exact hb
   exact⟨(H.mine b hb').1.of_eq (hωn b ho),(H.mine b hb').2⟩
 ·exact uN H.heap hle (fun b o x hb hr=>by rw[hy b hb,hr.cell]) 6 v u hv
theorem mN{c:Entry}{N:Nat}{U:Nat->Prop}{e:Env}{h:Hp}{a:Act}{w:World}{gid:Nat}{d:Option Tmp}{u:Upd}(hd:∀t,d=some t->t<N)(hs:Shape e gid {} none u)(H:eW c N U (e.upd d u) h a w):eW c N U (e.upd d (.ofV (oH 6 h u.ent.av))) (h.map fun _=>[]) a w:=by
 obtain⟨S,β,γ,lam,ω,F⟩:=H;obtain⟨S2,ω2,F2,hf⟩:=F.freeze;have h1:=hs.ls rfl;have h2:=hs.lb rfl;have h3:=hs.unlb rfl;have h4:=hs.noad rfl;have h5:=hs.nodr rfl;have hget:∀t,(e.upd d u).get t=if d=some t then u.ent else e.get t:=fun t=>by rw[cS,h1];rfl
 have hget':∀x t,(e.upd d (.ofV x)).get t=if d=some t then⟨.val x,none⟩else e.get t:=fun x t=>by rw[cS];rfl
 have hal:(e.upd d u).al=e.al:=by show u.add++eG e.al u.drop=e.al;rw[h4,h5];rfl
 have hlb:(e.upd d u).lb=e.lb:=by show mz (ek e.lb u.unlb) u.lb=e.lb;rw[h2,h3];rfl
 -- first forget the slot, then tell it anew
 have F3:FR c N U (e.upd d (.ofV .any)) (h.map fun _=>[]) a w S2 β γ lam ω2:=by
  refine F2.weak (fun t=>?_) (fun t g hg=>?_) (fun g z hz=>by rw[hal];exact hz) (fun B n hB=>by rw[hlb];exact hB)
  ·rw[hget,hget'];split
   ·rename_i hdt;exact .inr ⟨rfl,by have h1:=hd t hdt;have h2:=F.tsz.2;exact On h1 h2⟩
   ·exact .inl rfl
  ·rw[hget']at hg;rw[hget];split at hg
   ·cases hg
   ·rename_i hdt;rw[if_neg hdt];exact hg
 cases d with
 |none=>exact⟨S2,β,γ,lam,ω2,F3⟩
 | some s=>
  have hsl:=F.slots s (On (hd s rfl) F.tsz.2);rw[hget,NE rfl]at hsl;generalize hv0:a.tmps.getD s undef=v0 at hsl;have hvr:VR S β u.ent.av v0:=by
   unfold Ent.av;cases hv:u.ent.v with
   |val x=>rw[hv]at hsl;exact hsl
   |loc B off=>simp[VR]
  have F4:=F3.setV (d:=some s) hd (hf _ _ hvr);refine⟨S2,β,γ,lam,ω2,(F4.weak (e2:=e.upd (some s) (.ofV (oH 6 h u.ent.av))) (fun t=>.inl ?_) (fun t g hg=>?_) (fun g z hz=>hz) (fun B n hB=>hB)).acts ?_⟩
  ·rw[hget',cS];split
   ·rfl
   ·rename_i hdt;show (e.get t).v=(cf ((s,⟨.val .any,none⟩):: e.sl) t).v;rw[cB,if_neg (fun hh=>hdt (by rw[hh]))];rfl
  ·rw[hget']at hg;rw[cS];split at hg
   ·cases hg
   ·rename_i hdt;rw[if_neg hdt];show (cf ((s,⟨.val .any,none⟩):: e.sl) t).g=some g;rw[cB,if_neg (fun hh=>hdt (by rw[hh]))];exact hg
  ·have hlt:s<a.tmps.size:=On (hd s rfl) F.tsz.1;simp only[Act.put];rw[<- hv0,Om,Og hlt];apply QC;intro i;rw[P1];split
   ·rename_i hi;subst hi;rw[Og hlt];rfl
   ·rfl
end Go.Av
namespace Go.Av
variable [Dr]
section
variable {P:Program} {cx:Cx} {c:Entry} {N:Nat} {U:Nat->Prop} {e:Env} {h:Hp} {a:Act} {w:World} {S:aE} {β:List bT} {γ:Nat->Value} {lam:Nat->Option Nat} {ω:Nat->Owner} {o:Oper} {gid:Nat}
open Classical in
theorem Jo(hT:TOK P cx.T)(H:FR c N U e h a w S β γ lam ω)(hd:∀t,o.dst=some t->t<N)(hU:∀g,gid<=g->g<gid+1000->¬U g){t:Nat}{x:Operand}{lo hi mx:Option Operand}(ho:o.op= .slice t x lo hi mx)(hx:∀t,x= .tmp t->t<1000)(hlo:∀y,lo=some y->∀t,y= .tmp t->t<1000)(hr:bi e o.dst (nS cx e gid t x lo hi mx) h≠.fail):After P c N (UG U gid) (bi e o.dst (nS cx e gid t x lo hi mx) h) o a w:=by
 unfold nS at hr |-;cases x with
 | tmp s =>
  have hs:=hx s rfl;simp only at hr |-;cases hg:(e.get s).g with
  |none=>rw[hg]at hr;exact absurd rfl hr
  | some g =>
   rw[hg]at hr;simp only at hr |-;cases hal:aV e.al g with
   |none=>rw[hal]at hr;exact absurd rfl hr
   | some z0 =>
    rw[hal]at hr;cases z0 with
    |none=>exact absurd rfl hr
    | some z =>
     simp only at hr |-;cases hck:zb cx.T t z&&hi.isNone&&mx.isNone with
     |false=>rw[hck]at hr;exact absurd rfl hr
     | true =>
      rw[hck]at hr;simp only[NF]at hr |-;simp only[NG,Option.isNone_iff_eq_none]at hck;obtain⟨⟨hz,rfl⟩,rfl⟩:=hck;have hvx:=bl H (.tmp s) (fun t ht=>by cases ht;exact hs);cases hc:BK cx.T t (opnd e (.tmp s)) (lo.map (opnd e))with
      |none=>rw[hc]at hr;exact absurd rfl hr
      | some r=>
       unfold BK at hc;split at hc
       ·rename_i es hq;rw[hq]at hvx;have hvx0:=hvx;simp only[VR]at hvx;obtain⟨ad,cap,hv,hle,hnn,hqq⟩:=hvx;rw[hv]at hvx0;obtain⟨l,ei,ti,el,ht,hk,hei,hl,hrun,hvr⟩:=Jn (P:=P) (w:=w) hT hc hvx0 (kB H lo hlo);have hzz:z=ei.size:=by
         unfold zb dn at hz;rw[ht]at hz;simp only[hk,hei,Oo]at hz;exact NR hz
        subst hzz;have hrun':(execOp a.eval o).run P w= .ok (.value (.slice (if cap=l then ad else ad.map (·.add (l*ei.size))) (es.length-l) (cap-l))) w:=by
         simp only[execOp,ho,Option.map_none,Sem.run_bind];rw[hv,hrun];simp only[Result.andThen_ok,Sem.run_pure]
        have hval:a.tmps.getD s undef=γ g:=H.grps s g (some ei.size) hs hg hal;have hfree:=H.free g (some ei.size) hal;have hav:a.eval (.tmp s)=a.tmps.getD s undef:=rfl;rw[<- hval,<- hav,hv]at hfree;obtain⟨a',len,cap',he,f1,f2,f3⟩:=hfree;simp only[Value.slice.injEq]at he;obtain⟨rfl,rfl,rfl⟩:=he;let ω':Nat->Owner:=fun k=>if ω k= .grp g then .grp gid else ω k
        have F:=H.regrp (r:=r) (v:=.slice (if cap=l then ad else ad.map (·.add (l*ei.size))) (es.length-l) (cap-l)) (gid:=gid) (z:=some ei.size) (g0:=some g) (w':=w) (S':=S) (ω':=ω') hd hU H.wf (Gro.refl w) (aE.le_refl S)
         (fun k _ _=>⟨rfl,fun _=>rfl⟩) (fun k _ hk=>if_neg (hk g rfl)) (fun b hb=>by
          by_cases hbg:ω b= .grp g
          ·have:=H.mine b (by rw[hbg];simp)
           exact⟨.inr (this.1.grp hbg),this.2⟩
          ·have hb':ω b≠.no:=by
            have e1:ω' b=ω b:=if_neg hbg;rw[<- e1];exact hb
           have:=H.mine b hb'
           exact⟨this.1.of_eq (if_neg hbg),this.2⟩) hvr (by
          refine⟨_,_,_,rfl,by omega,fun hn=>?_,?_⟩
          ·split at hn
           ·omega
           ·simp only[Option.map_eq_none_iff]at hn
            have:=f2 hn
            omega
          ·rcases f3 with f3|⟨sz,b,off,x,g1,g2,g3,g4,g5,g6⟩
           ·left;omega
           ·by_cases hcl:cap=l
            ·left;omega
            ·right;simp only[NB]at g1;subst g1 g2;refine⟨ei.size,b,off+l*ei.size,x,rfl,by rw[if_neg hcl,Oo,addr_add],g3,?_,by show (if ω b= .grp g then Owner.grp gid else ω b)=_;rw[NE g5],fun o ho=>g6 o ?_⟩
             ·rw[QB];have:l*ei.size<=cap*ei.size:=NY _ (by omega);omega
             ·rw[QB]at ho;have:l*ei.size<=es.length*ei.size:=NY _ hl;omega)
        simp only[bi,ae,ah,M.pure];exact After.val hrun' ⟨_,_,_,_,ω',F⟩
       ·cases hc
 |_=>exact absurd rfl hr
end
end Go.Av
namespace Go.Av
variable [Dr]
section
variable {P:Program} {cx:Cx} {c:Entry} {N:Nat} {U:Nat->Prop} {e:Env} {h:Hp} {a:Act} {w:World} {S:aE} {β:List bT} {γ:Nat->Value} {lam:Nat->Option Nat} {ω:Nat->Owner} {o:Oper} {gid:Nat}
omit [Dr]in
theorem rC{x:Operand}(h:bB x=true):x= .const (.slice none 0 0):=by
 unfold bB at h;split at h
 ·rfl
 ·simp at h
theorem ED{m:M AV}(hd:∀t,o.dst=some t->t<N)(hl:bi e o.dst (.dyn m .ofV) h≠.fail->After P c N (UG U gid) (bi e o.dst (.dyn m .ofV) h) o a w)(hr:bi e o.dst (.dyn (ae m vO) .ofV) h≠.fail):After P c N (UG U gid) (bi e o.dst (.dyn (ae m vO) .ofV) h) o a w:=by
 intro next Q hn hp
 simp only[bi,ae,vO,M.pure]at hr hn hp hl;cases hm:m h with
 |fail=>rw[hm]at hr;exact absurd rfl hr
 |pan pv h1=>
  rw[hm]at hp hl;exact hl (by simp) next Q (fun e' h' a' w' h1=>by cases h1) hp
 |ok v h1=>
  rw[hm]at hn hl;refine hl (by simp) next Q (fun e' h' a' w' k1 k2 k3=>?_) (fun pv h' v w' k1=>by cases k1)
  cases k1;exact hn _ _ a' w' rfl (mN (gid:=gid) hd (Shape.ofV ..) k2) k3
omit [Dr]in
theorem rY{x:Operand}(h:VR S β (opnd e x) (a.eval x)):VR S β (nT e x) (a.eval x):=by
 unfold nT;cases hn:bB x with
 |false=>exact h
 |true=>
  unfold bB at hn;split at hn
  ·simp[Act.eval,VR]
  ·cases hn
omit [Dr]in
theorem MZ{f g:Operand->AV}{v:Operand->Value}{l:List Operand}(_:bC S β (l.map f) (l.map v))(h:∀x∈l,VR S β (g x) (v x)):bC S β (l.map g) (l.map v):=by
 induction l with
 |nil=>simp[bC]
 |cons x l ih=>
  rename_i hh;simp only[N8,bC]at hh |-;obtain⟨y,ys,hy,_,h2⟩:=hh;cases hy;exact⟨_,_,rfl,h x (by simp),ih h2 fun y hy=>h y (by simp[hy])⟩
theorem Gg(hT:TOK P cx.T)(hC:db P cx.own cx.call)(H:FR c N U e h a w S β γ lam ω)(hd:∀t,o.dst=some t->t<N)(hU:∀g,gid<=g->g<gid+1000->¬U g){cc:Call}(ho:o.op= .call cc)(ht:∀x∈o.op.operands.toList,∀t,x= .tmp t->t<1000)(hr:bi e o.dst (fP cx e gid o cc) h≠.fail):After P c N (UG U gid) (bi e o.dst (fP cx e gid o cc) h) o a w:=by
 have hargs:∀x∈cc.args.toList,∀t,x= .tmp t->t<1000:=fun x hx t hxt=>ht x (by rw[ho];simp[Op.operands,Call.operands];exact .inr (by simpa using hx)) t hxt;have hvs:=nU H cc.args.toList hargs;have hmap:cc.args.map a.eval=(cc.args.toList.map a.eval).toArray:=by apply PM;simp
 unfold fP at hr |-;cases hcal:cc.callee with
 |invoke r m=>rw[hcal]at hr;exact absurd rfl hr
 | value f=>
  rw[hcal]at hr;have hfv:∀t,f= .tmp t->t<1000:=fun t hft=>ht f (by rw[ho];simp[Op.operands,Call.operands,hcal]) t hft;have hclos:∀(hr:bi e o.dst (.dyn (cO cx.call (opnd e f) (cc.args.toList.map (opnd e))) .ofV) h≠.fail),After P c N (UG U gid) (bi e o.dst (.dyn (cO cx.call (opnd e f) (cc.args.toList.map (opnd e))) .ofV) h) o a w:=by
   intro hr;have hf:=bl H f hfv;simp only[bi]at hr |-;generalize hq:opnd e f=q at hr hf |-;unfold cO at hr |-;split at hr
   ·rename_i g fi cap;simp only[VR]at hf;obtain⟨xs,ys,hav,hx,hy⟩:=hf;refine mD hC H hd hU ((hx.append hvs).append hy) (fun hfn=>?_) (.inl fun v=>rfl) hr;have hargs':(xs++cc.args.toList.map a.eval++ys).toArray=xs.toArray++cc.args.map a.eval++ys.toArray:=by rw[hmap];simp
    simp only[execOp,ho,resolve,hcal,hav,Deferred.ofValue,Sem.run_bind,Sem.run_pure,Result.andThen_ok,invoke];rw[hargs'];exact iw (w:=w) hfn
   ·exact absurd rfl hr
  cases f with
  | func f=>
   simp only at hr |-;have hrunc:∀hfn,(execOp a.eval o).run P w= .ok (.enter f (cc.args.toList.map a.eval).toArray) w:=fun hfn=>by
    simp only[execOp,ho,resolve,hcal,Act.eval,Deferred.ofValue,Sem.run_bind,Sem.run_pure,Result.andThen_ok,invoke];rw[hmap];simpa using iw (w:=w) (args:=(cc.args.toList.map a.eval).toArray) hfn
   cases hfz:cn cx.ann.fz o.dst with
   | true=>
    rw[hfz]at hr;simp only[NF]at hr |-;cases hq:!(cx.iso f)&&!(cx.nw f)&&(cx.own f).isNone with
    |false=>rw[hq]at hr;exact absurd rfl hr
    |true=>
     rw[hq]at hr;simp only[NF]at hr |-;exact ED (m:=cx.call f (cc.args.toList.map (opnd e))) hd (fun hr=>mD hC H hd hU hvs hrunc (.inl fun v=>rfl) hr) hr
   |false=>
   rw[hfz]at hr;simp only[NQ]at hr |-;have hvt:bC S β (cc.args.toList.map (pN (cn cx.ann.hb o.dst) e)) (cc.args.toList.map a.eval):=by
    refine MZ hvs fun x hx=>?_;unfold pN;cases cn cx.ann.hb o.dst with
    |false=>exact bl H x (hargs x hx)
    |true=>exact rY (bl H x (hargs x hx))
   refine mD hC H hd hU hvt (fun hfn=>?_) ?_ hr
   rotate_left
   ·cases hof:cx.own f with
    |none=>exact .inl fun v=>rfl
    |some sz=>exact .inr ⟨sz,rfl,fun v=>rfl⟩
   simp only[execOp,ho,resolve,hcal,Act.eval,Deferred.ofValue,Sem.run_bind,Sem.run_pure,Result.andThen_ok,invoke];rw[hmap];simpa using iw (w:=w) (args:=(cc.args.toList.map a.eval).toArray) hfn
  |tmp t=>exact hclos hr
  |const v=>exact hclos hr
  |global g=>exact hclos hr
 | builtin b=>
  rw[hcal]at hr;cases b<;>simp only at hr |- <;> (try exact absurd rfl hr)
  case append=>
   split at hr
   ·rename_i t u x y hts hxs;cases hu:ia cx.T u with
    |false=>rw[hu]at hr;exact absurd rfl hr
    | true =>
     rw[hu]at hr;simp only[Pv,NQ]at hr |-;have hx:∀t,x= .tmp t->t<1000:=hargs x (by rw[hxs];simp);have hy:∀t,y= .tmp t->t<1000:=hargs y (by rw[hxs];simp);cases hha:cn cx.ann.ha o.dst with
     | true=>
      rw[hha]at hr;simp only[NF]at hr |-;cases hhb:cn cx.ann.hb o.dst with
      |true=>
       rw[hhb]at hr;exact Gd hT H hd ho hcal hts hxs hx hy hu hr
      |false=>
       rw[hhb]at hr;exact Ge hT H hd ho hcal hts hxs hx hy hu hr
     | false=>
      rw[hha]at hr;simp only[NQ]at hr |-;cases hnc:bB x with
      | true=>
       rw[hnc]at hr;simp only[NF]at hr |-;have hxc:=rC hnc;subst hxc;have key:∀Y r,ck cx.T t (.sl []) Y=some r->vQ P S β w (a.eval y) Y->After P c N (UG U gid) (.ok (e.upd o.dst (Upd.own r gid (dn cx.T t))) h) o a w:=fun Y r happ hsrc=>
        ta hT H hd hU ho hcal hts hxs hu (as:=[]) (g0:=none) rfl (by simp only[VR];exact⟨none,0,rfl,NL _,fun _=>rfl,fun q hq=>by cases hq⟩) (.inl ⟨rfl,rfl⟩) happ hsrc
       cases hhl:cn cx.ann.hl o.dst with
       | true=>
        rw[hhl]at hr;simp only[NF,bi,Av.ae,sL]at hr |-;cases hsa:sW h (opnd e y)with
        |none=>rw[hsa]at hr;exact absurd rfl hr
        |some es=>
         rw[hsa]at hr;simp only at hr |-;cases happ:ck cx.T t (.sl []) (.sl es)with
         |none=>rw[happ]at hr;exact absurd rfl hr
         |some r=>exact key _ r happ (sx H (bl H y hy) hsa)
       |false=>
        rw[hhl]at hr;simp only[NQ]at hr |-;cases happ:ck cx.T t (.sl []) (opnd e y)with
        |none=>rw[happ]at hr;exact absurd rfl hr
        |some r=>exact key _ r happ (od H.wf (bl H y hy))
      | false=>
       rw[hnc]at hr;simp only[NQ]at hr |-;cases x<;>simp only at hr |- <;> (try exact absurd rfl hr);rename_i s;cases hg:(e.get s).g with
       |none=>rw[hg]at hr;exact absurd rfl hr
       | some g=>
        rw[hg]at hr;simp only at hr |-;cases hal:aV e.al g with
        |none=>rw[hal]at hr;exact absurd rfl hr
        | some z=>
         rw[hal]at hr;simp only at hr |-;cases hz:vG z (dn cx.T t)with
         |false=>rw[hz]at hr;exact absurd rfl hr
         | true=>
          rw[hz]at hr;simp only[NF]at hr |-;have key:∀Y r,ck cx.T t (opnd e (.tmp s)) Y=some r->vQ P S β w (a.eval y) Y->After P c N (UG U gid) (.ok (e.upd o.dst { Upd.own r gid (dn cx.T t)with drop:=some g }) h) o a w:=fun Y r happ hsrc=>by
           obtain⟨as,has⟩:=Gb happ;have hvx:=bl H (.tmp s) hx;rw[has]at hvx happ;have hγ:=H.grps s g z (hx s rfl) hg hal;exact ta hT H hd hU ho hcal hts hxs hu (as:=as) (g0:=some g) rfl hvx (.inr ⟨g,z,rfl,by
            have:a.eval (.tmp s)=γ g:=hγ;rw[this];exact H.free g z hal,hz⟩) happ hsrc
          cases hhl:cn cx.ann.hl o.dst with
          | true=>
           rw[hhl]at hr;simp only[NF,bi,Av.ae,sL]at hr |-;cases hsa:sW h (opnd e y)with
           |none=>rw[hsa]at hr;exact absurd rfl hr
           |some es=>
            rw[hsa]at hr;simp only at hr |-;cases happ:ck cx.T t (opnd e (.tmp s)) (.sl es)with
            |none=>rw[happ]at hr;exact absurd rfl hr
            |some r=>exact key _ r happ (sx H (bl H y hy) hsa)
          |false=>
           rw[hhl]at hr;simp only[NQ]at hr |-;cases happ:ck cx.T t (opnd e (.tmp s)) (opnd e y)with
           |none=>rw[happ]at hr;exact absurd rfl hr
           |some r=>exact key _ r happ (od H.wf (bl H y hy))
   ·exact absurd rfl hr
  case clear=>
   split at hr
   ·rename_i t ts x xs hts hxs;exact Ec hT H hd ho hcal hts hxs (hargs x (by rw[hxs];simp)) hr
   ·exact absurd rfl hr
  case len=>
   split at hr
   ·rename_i t ts x xs hts hxs;refine eH H hd (m:=Builtin.len_ cc.argTypes o.type (cc.args.map a.eval)) ?_ (fun r hr'=>?_) hr
    ·simp only[execOp,ho,resolve,hcal,invoke,builtin,pure_bind]
    ·have h1:cc.argTypes=(t:: ts).toArray:=by apply PM;simpa using hts
     have h2:cc.args.map a.eval=(a.eval x:: xs.map a.eval).toArray:=by rw[hmap,hxs];simp
     rw[h1,h2];exact JH hT ts (xs.map a.eval) hr' (bl H x (hargs x (by rw[hxs];simp)))
   ·exact absurd rfl hr
  case min=>
   refine eH H hd (m:=Builtin.min_ cc.argTypes o.type (cc.args.map a.eval)) ?_ (fun r hr'=>?_) hr
   ·simp only[execOp,ho,resolve,hcal,invoke,builtin,pure_bind]
   ·obtain⟨v,rest,he,hp⟩:=uY (P:=P) (w:=w) _ _ (NL _) r _ hr' hvs;obtain⟨u,hu,hur⟩:=hp;exact⟨u,by rw[hmap];simp only[Builtin.min_];rw[he];simpa using hu,hur⟩
  case max=>
   refine eH H hd (m:=Builtin.max_ cc.argTypes o.type (cc.args.map a.eval)) ?_ (fun r hr'=>?_) hr
   ·simp only[execOp,ho,resolve,hcal,invoke,builtin,pure_bind]
   ·obtain⟨v,rest,he,hp⟩:=uY (P:=P) (w:=w) _ _ (NL _) r _ hr' hvs;obtain⟨u,hu,hur⟩:=hp;exact⟨u,by rw[hmap];simp only[Builtin.max_];rw[he];simpa using hu,hur⟩
theorem LC(hT:TOK P cx.T)(H:FR c N U e h a w S β γ lam ω)(hd:∀t,o.dst=some t->t<N){t p:Nat}(ho:o.op= .load t (.tmp p))(hx:p<1000)(hr:bi e o.dst (Kx (eq cx e o.dst t p)) h≠.fail):
  After P c N (UG U gid) (bi e o.dst (Kx (eq cx e o.dst t p)) h) o a w:=by
 have hsh:cH (Shape e gid {} none) (eq cx e o.dst t p):=rJ o.dst t p {};have hl:=fun hr=>AR (gid:=gid) hT H hd ho hx hr;revert hr;generalize eq cx e o.dst t p=A at hsh hl;intro hr;cases A with
 |bad=>exact absurd rfl hr
 | stat u=>
  intro next Q hn hp
  exact hl (by simp[bi,M.pure]) next Q (fun e' h' a' w' h1 h2 h3=>by
   cases h1;exact hn _ _ a' w' rfl (mN hd hsh h2) h3) (fun pv h' v w' h1=>by cases h1)
 |thr v=>exact hl hr
 | dyn m sh=>
  intro next Q hn hp
  simp only[bi,Kx,ae,vO,M.pure]at hr hn hp hl;cases hm:m h with
  |fail=>rw[hm]at hr;exact absurd rfl hr
  |pan pv h1=>
   rw[hm]at hp hl;exact hl (by simp) next Q (fun e' h' a' w' h1=>by cases h1) hp
  |ok v h1=>
   rw[hm]at hn hl;refine hl (by simp) next Q (fun e' h' a' w' k1 k2 k3=>?_) (fun pv h' v w' k1=>by cases k1)
   cases k1;exact hn _ _ a' w' rfl (mN hd (hsh v) k2) k3
theorem Fc(hT:TOK P cx.T)(hC:db P cx.own cx.call)(H:FR c N U e h a w S β γ lam ω)(hd:∀t,o.dst=some t->t<N)(hU:∀g,gid<=g->g<gid+1000->¬U g)(ht:∀x∈o.op.operands.toList,∀t,x= .tmp t->t<1000)(hpN:∀p,B5 (cD cx.ann.kinds p .L)=true->p<N)(hr:bR cx e gid o h≠.fail):After P c N (UG U gid) (bR cx e gid o h) o a w:=by
 cases ho:o.op with
 |move x=>exact AY H hd hU (.inl ho) (fun t hx=>ht x (by rw[ho];simp[Op.operands]) t hx)
 |assign x=>exact AY H hd hU (.inr ho) (fun t hx=>ht x (by rw[ho];simp[Op.operands]) t hx)
 |pick k x y=>
  have h1:=fun t hx=>ht k (by rw[ho];simp[Op.operands]) t hx;have h2:=fun t hx=>ht x (by rw[ho];simp[Op.operands]) t hx;have h3:=fun t hx=>ht y (by rw[ho];simp[Op.operands]) t hx;unfold bR fQ at hr |-;rw[ho]at hr |-;simp only at hr |-;refine eH H hd (m:=do pure (if <- asBool (a.eval k)then a.eval x else a.eval y)) ?_ (fun r hr'=>He hr' (bl H k h1) (bl H x h2) (bl H y h3)) hr;simp only[execOp,ho,bind_assoc,pure_bind]
 |alloc t=>exact CR hT H hd hU ho hr
 |box t x=>exact Ja H hd hU ho (fun t hx=>ht x (by rw[ho];simp[Op.operands]) t hx) hr
 |build t ps=>
  have hps:∀p∈ps.toList,∀t,p.2= .tmp t->t<1000:=fun p hp t hx=>ht p.2 (by rw[ho];simp[Op.operands];exact⟨p.1,by simpa using hp⟩) t hx;unfold bR fQ at hr |-;rw[ho]at hr |-;simp only at hr |-;exact eH H hd (m:=Instr.build t (ps.map fun p=>(p.1,a.eval p.2))) (by simp only[execOp,ho]) (fun r hr'=>wb hT hr' (by simpa using o4 H ps.toList hps)) hr
 | buildSlice t n ps=>
  have hps:∀p∈ps.toList,∀t,p.2= .tmp t->t<1000:=fun p hp t hx=>ht p.2 (by rw[ho];simp[Op.operands];exact⟨p.1,by simpa using hp⟩) t hx;cases hha:cn cx.ann.ha o.dst with
  |false=>exact sN hT H hd hU ho hps hha hr
  |true=>
   unfold bR fQ at hr |-;rw[ho]at hr |-;simp only[hha,NF]at hr |-;exact BA hT H hd ho hps hr
 | load t x=>
  unfold bR fQ at hr |-;rw[ho]at hr |-;cases x with
  | tmp p=>
   have hp:=ht (.tmp p) (by rw[ho];simp[Op.operands]) p rfl;simp only at hr |-;cases hnl:cn cx.ann.nl o.dst&&iU (e.get p)with
   |true=>rw[hnl]at hr;exact absurd rfl hr
   |false=>
   rw[hnl]at hr;simp only[NQ]at hr |-;cases hz:cn cx.ann.fz o.dst with
   |false=>rw[hz]at hr;exact AR hT H hd ho hp hr
   |true=>
    rw[hz]at hr;simp only[NF]at hr |-;exact LC hT H hd ho hp hr
  |_=>exact absurd rfl hr
 |store t x y=>
  exact FI hT H (fun _ _=>trivial) hU ho (fun t hx=>ht x (by rw[ho];simp[Op.operands]) t hx) (fun t hx=>ht y (by rw[ho];simp[Op.operands]) t hx) (fun p _ hp=>hpN p hp) hr
 |nilCheck x=>exact xF H hd ho (fun t hx=>ht x (by rw[ho];simp[Op.operands]) t hx) hr
 |binOp op t x y u=>
  have h1:=fun t hx=>ht x (by rw[ho];simp[Op.operands]) t hx;have h2:=fun t hx=>ht y (by rw[ho];simp[Op.operands]) t hx;unfold bR fQ at hr |-;rw[ho]at hr |-;simp only at hr |-;cases hlit:rt cx.T op t x y with
  |true=>rw[hlit]at hr;exact absurd rfl hr
  |false=>
  rw[hlit]at hr;simp only[NQ]at hr |-;exact eH H hd (m:=do eqGuard op t x y (a.eval x) (a.eval y);Go.binOp op t (a.eval x) (a.eval y)) (by simp only[execOp,ho]) (fun r hr'=>I9 hT x y hlit hr' (rY (bl H x h1)) (rY (bl H y h2))) hr
 |unOp op t x=>
  have h1:=fun t hx=>ht x (by rw[ho];simp[Op.operands]) t hx;unfold bR fQ at hr |-;rw[ho]at hr |-;simp only at hr |-;exact eH H hd (m:=Op.unary op (a.eval x)) (by simp only[execOp,ho]) (fun r hr'=>L8 hr' (bl H x h1)) hr
 |convert s t x=>
  have h1:=fun t hx=>ht x (by rw[ho];simp[Op.operands]) t hx;unfold bR fQ at hr |-;rw[ho]at hr |-;simp only at hr |-;exact eH H hd (m:=convert s t (a.eval x)) (by simp only[execOp,ho]) (fun r hr'=>Gw hT hr' (bl H x h1)) hr
 |makeInterface t x=>
  have h1:=fun t hx=>ht x (by rw[ho];simp[Op.operands]) t hx;unfold bR fQ at hr |-;rw[ho]at hr |-;simp only at hr |-;exact eH H hd (m:=Instr.makeInterface t (a.eval x)) (by simp only[execOp,ho]) (fun r hr'=>zC hT hr' (bl H x h1)) hr
 |makeFunc f x y=>
  have h1:=nU H x.toList (fun z hz t hx=>ht z (by rw[ho];simp[Op.operands];exact .inl (by simpa using hz)) t hx);have h2:=nU H y.toList (fun z hz t hx=>ht z (by rw[ho];simp[Op.operands];exact .inr (by simpa using hz)) t hx);unfold bR fQ at hr |-;rw[ho]at hr |-;simp only at hr |-;refine After.val (v:=.func f (x.map a.eval) (y.map a.eval)) (w':=w) (by simp[execOp,ho,Instr.makeFunc]) (Np ⟨S,β,γ,lam,ω,H.setV hd ?_⟩);simp only[VR];have hm:∀z:Array Operand,z.map a.eval=(z.toList.map a.eval).toArray:=fun z=>by apply PM;simp
  exact⟨_,_,by rw[hm x,hm y],h1,h2⟩
 |makeSlice t x y=>exact uV hT H hd hU ho (fun t hx=>ht x (by rw[ho];simp[Op.operands]) t hx) (fun t hx=>ht y (by rw[ho];simp[Op.operands]) t hx) hr
 | slice t x lo hi mx=>
  cases hso:cn cx.ann.so o.dst with
  |true=>
   unfold bR fQ at hr |-;rw[ho]at hr |-;simp only[hso,NF]at hr |-;exact Jo hT H hd hU ho (fun t hx=>ht x (by rw[ho];simp[Op.operands]) t hx) (fun y hy t hx=>ht y (by rw[ho];simp[Op.operands,hy]) t hx) hr
  |false=>
   exact FF hT H hd hU ho (fun t hx=>ht x (by rw[ho];simp[Op.operands]) t hx) (fun y hy t hx=>ht y (by rw[ho];simp[Op.operands,hy]) t hx) (fun y hy t hx=>ht y (by rw[ho];simp[Op.operands,hy]) t hx) (fun y hy t hx=>ht y (by rw[ho];simp[Op.operands,hy]) t hx) hso hr
 |fieldAddr t x f=>exact uK hT H hd ho (fun t hx=>ht x (by rw[ho];simp[Op.operands]) t hx) hr
 |field t x f=>
  have h1:=fun t hx=>ht x (by rw[ho];simp[Op.operands]) t hx;unfold bR fQ at hr |-;rw[ho]at hr |-;simp only at hr |-;exact eH H hd (m:=Instr.field t (a.eval x) f) (by simp only[execOp,ho]) (fun r hr'=>Eu hT hr' (bl H x h1)) hr
 |indexAddr t x i=>exact uO hT H hd ho (fun t hx=>ht x (by rw[ho];simp[Op.operands]) t hx) (fun t hx=>ht i (by rw[ho];simp[Op.operands]) t hx) hr
 |index t x i=>
  have h1:=fun t hx=>ht x (by rw[ho];simp[Op.operands]) t hx;have h2:=fun t hx=>ht i (by rw[ho];simp[Op.operands]) t hx;unfold bR fQ at hr |-;rw[ho]at hr |-;simp only at hr |-;exact eH H hd (m:=Instr.index t (a.eval x) (a.eval i)) (by simp only[execOp,ho]) (fun r hr'=>xe hT hr' (bl H x h1) (bl H i h2)) hr
 |extract x i=>
  have h1:=fun t hx=>ht x (by rw[ho];simp[Op.operands]) t hx;unfold bR fQ at hr |-;rw[ho]at hr |-;simp only at hr |-;exact eH H hd (m:=Instr.extract (a.eval x) i) (by simp only[execOp,ho]) (fun r hr'=>zj hr' (bl H x h1)) hr
 |panic x=>
  have h1:=fun t hx=>ht x (by rw[ho];simp[Op.operands]) t hx;have hv:=bl H x h1;unfold bR fQ at hr |-;rw[ho]at hr |-;simp only at hr |-;cases hq:opnd e x<;>rw[hq]at hr hv<;>(try exact absurd rfl hr);rename_i t v;intro next Q hn hp
  simp only[VR]at hv;obtain⟨y,hav,hy⟩:=hv;unfold Oper.wp;have hrun:(execOp a.eval o).run P w= .halt (.panic (.iface t y)) w:=by simp[execOp,ho,hav,Instr.panic]
  rw[hrun];exact hp (.iface t v) h (.iface t y) w rfl ⟨S,β,H.out,by simp only[VR];exact⟨y,rfl,hy⟩⟩
 |call cc=>
  unfold bR fQ at hr |-;rw[ho]at hr |-;simp only at hr |-;exact Gg hT hC H hd hU ho ht hr
 | makeMap t r=>
  unfold bR fQ at hr |-;rw[ho]at hr |-;simp only at hr |-;cases r with
  |some r=>exact absurd rfl hr
  |none=>
   simp only[Option.isSome_none,NQ];exact zB H hd ho
 |lookup t x i ok=>
  have h1:=fun t hx=>ht x (by rw[ho];simp[Op.operands]) t hx;have h2:=fun t hx=>ht i (by rw[ho];simp[Op.operands]) t hx;unfold bR fQ at hr |-;rw[ho]at hr |-;simp only at hr |-;exact Ca hT H hd ho h1 h2 hr
 |range t x=>
  have h1:=fun t hx=>ht x (by rw[ho];simp[Op.operands]) t hx;unfold bR fQ at hr |-;rw[ho]at hr |-;simp only at hr |-;exact Fl hT H hd ho h1 hr
 |entry x=>
  have h1:=fun t hx=>ht x (by rw[ho];simp[Op.operands]) t hx;unfold bR fQ at hr |-;rw[ho]at hr |-;simp only at hr |-;exact En H hd ho h1 hr
 |mapUpdate t m k x=>
  have h1:=fun t hx=>ht m (by rw[ho];simp[Op.operands]) t hx;have h2:=fun t hx=>ht k (by rw[ho];simp[Op.operands]) t hx;have h3:=fun t hx=>ht x (by rw[ho];simp[Op.operands]) t hx;unfold bR fQ at hr |-;rw[ho]at hr |-;simp only at hr |-;exact Fi hT H (.inl ho) h1 h2 h3 hr
 |insert t m k x=>
  have h1:=fun t hx=>ht m (by rw[ho];simp[Op.operands]) t hx;have h2:=fun t hx=>ht k (by rw[ho];simp[Op.operands]) t hx;have h3:=fun t hx=>ht x (by rw[ho];simp[Op.operands]) t hx;unfold bR fQ at hr |-;rw[ho]at hr |-;simp only at hr |-;exact Fi hT H (.inr ho) h1 h2 h3 hr
 |_=>unfold bR fQ at hr;rw[ho]at hr;exact absurd rfl hr
end
end Go.Av
namespace Go.Av
variable [Dr]
structure Agree (cx:Cx) (o:Oper) (e e':Env):Prop where
 ops:∀t∈jA o,e'.get t=e.get t
 loc:((aC cx o).rl||(aC cx o).wl)=true->(∀t,1000<=t->e'.get t=e.get t)/\∀B,bN e'.lb B=bN e.lb B
 al:(aC cx o).dr=true->∀g,aV e'.al g=aV e.al g
 lf:(aC cx o).wl=true->∀s,o.dst=some s->bw e.sl (bL s)=true->bw e'.sl (bL s)=true
section
variable {cx:Cx} {e e':Env} {gid:Nat} {o:Oper}
omit [Dr]in
theorem Agree.get(A:Agree cx o e e'){t:Nat}(h:Operand.tmp t∈o.op.operands.toList):e'.get t=e.get t:=
 A.ops t (Qd.2 ⟨.tmp t,h,rfl⟩)
omit [Dr]in
theorem Agree.opnd(A:Agree cx o e e'){x:Operand}(h:x∈o.op.operands.toList):opnd e' x=opnd e x:=by
 cases x with
 |tmp t=>simp only[Av.opnd,Env.av];rw[A.get h]
 |const v=>rfl
 |func f=>rfl
 |global g=>rfl
omit [Dr]in
theorem Agree.opnds(A:Agree cx o e e'){l:List Operand}(h:∀x∈l,x∈o.op.operands.toList):l.map (Av.opnd e')=l.map (Av.opnd e):=
 PU fun x hx=>A.opnd (h x hx)
omit [Dr]in
theorem Agree.parts(A:Agree cx o e e'){l:List (Nat×Operand)}(h:∀x∈l,x.2∈o.op.operands.toList):l.map (fun p=>(p.1,Av.opnd e' p.2))=l.map (fun p=>(p.1,Av.opnd e p.2)):=
 PU fun x hx=>by rw[A.opnd (h x hx)]
omit [Dr]in
theorem pJ(h:∀t,1000<=t->e'.get t=e.get t){B:Nat}(hB:1000<=B):∀n,nA e' B n=nA e B n
 |0=>rfl
 |n+1=>by
  simp only[nA,Env.av];rw[pJ h hB n,h (B+n) (by omega)]
omit [Dr]in
theorem ru(h:∀B,bN e'.lb B=bN e.lb B)(B off n:Nat):l5 e' B off n=l5 e B off n:=by
 unfold l5;rw[h]
omit [Dr]in
theorem vM(h:∀B,bN e'.lb B=bN e.lb B)(B off p n:Nat):m7 e' B off p n=m7 e B off p n:=by
 unfold m7;rw[h]
omit [Dr]in
theorem rR{told:Bool}{x:Operand}(A:Agree cx o e e')(h:x∈o.op.operands.toList):iY told e' gid x=iY told e gid x:=by
 unfold iY;cases x with
 |tmp t=>simp only;rw[A.get h]
 |_=>rfl
omit [Dr]in
theorem zw{d:Option Tmp}{t:TypeId}{p:Nat}(A:Agree cx o e e')(hp:Operand.tmp p∈o.op.operands.toList)(hf:(aC cx o).rl=true\/iU (e.get p)=false):eq cx e' d t p=eq cx e d t p:=by
 unfold eq;rw[A.get hp];cases hv:(e.get p).v with
 |val a=>rfl
 | loc B off=>
  replace hf:(aC cx o).rl=true:=hf.elim id fun h=>by simp[iU,hv]at h
  simp only;cases cx.T t with
  |none=>rfl
  | some ti=>
   obtain⟨h1,h2⟩:=A.loc (by rw[hf];rfl);simp only;rw[ru h2];cases hlb:l5 e B off ti.size with
   |false=>rfl
   |true=>
    obtain⟨m,_,_,hB⟩:=xd hlb;rw[pJ h1 (by omega),h1 (B+off) (by omega)]
omit [Dr]in
theorem yp{t:TypeId}{p:Nat}{y:Operand}(A:Agree cx o e e')(hp:Operand.tmp p∈o.op.operands.toList)(hy:y∈o.op.operands.toList)(hf:(aC cx o).wl=true):fR cx e' gid t p y=fR cx e gid t p y:=by
 unfold fR;rw[A.get hp,A.opnd hy];obtain⟨h1,h2⟩:=A.loc (by rw[hf];simp);cases hv:(e.get p).v with
 |val a=>rfl
 | loc B off=>
  simp only;cases cx.T t with
  |none=>rfl
  |some ti=>
   simp only;rw[ru h2,vM h2];cases y with
   |tmp s=>simp only;rw[A.get hy]
   |_=>rfl
omit [Dr]in
theorem wB{t:TypeId}{p i:Nat}(A:Agree cx o e e')(hp:Operand.tmp p∈o.op.operands.toList):iC cx e' t p i=iC cx e t p i:=by
 unfold iC;rw[A.get hp]
omit [Dr]in
theorem xf{t:TypeId}{p:Nat}{i:Operand}(A:Agree cx o e e')(hp:Operand.tmp p∈o.op.operands.toList)(hi:i∈o.op.operands.toList):dI cx e' t p i=dI cx e t p i:=by
 unfold dI;rw[A.get hp,A.opnd hi]
omit [Dr]in
theorem vU{s:Nat}{t:TypeId}(A:Agree cx o e e')(hs:o.dst=some s)(hf:cD cx.ann.kinds s .L≠.F->cD cx.ann.kinds s .L≠.H->cD cx.ann.kinds s .L≠.B->(aC cx o).wl=true)(hb:fO cx e gid s t≠.bad):fO cx e' gid s t=fO cx e gid s t:=by
 unfold fO at hb |-;cases ht:cx.T t with
 |none=>rfl
 | some ti=>
  rw[ht]at hb;simp only at hb |-;cases hk:cD cx.ann.kinds s .L<;>rw[hk]at hb hf<;>simp only at hb |-
  all_goals
   have hw:=hf (by simp) (by simp) (by simp);cases hl:bw e.sl (bL s)with
   |false=>exact absurd (by rw[hl];simp) hb
   |true=>rw[A.lf hw s hs hl]
omit [Dr]in
theorem Bw{s:Nat}{t:TypeId}{x:Operand}(A:Agree cx o e e')(hs:o.dst=some s)(hx:x∈o.op.operands.toList)(hf:cD cx.ann.kinds s .F≠.F->cD cx.ann.kinds s .F≠.H->cD cx.ann.kinds s .F≠.B->(aC cx o).wl=true)(hb:lD cx e s t x≠.bad):lD cx e' s t x=lD cx e s t x:=by
 unfold lD at hb |-;rw[A.opnd hx];cases hk:cD cx.ann.kinds s .F<;>rw[hk]at hb hf<;>simp only at hb |-
 all_goals
  cases ht:cx.T t with
  |none=>rfl
  |some ti=>
   rw[ht]at hb;simp only at hb |-;have hw:=hf (by simp) (by simp) (by simp);cases hl:bw e.sl (bL s)with
   |false=>exact absurd (by rw[hl];simp) hb
   |true=>rw[A.lf hw s hs hl]
omit [Dr]in
theorem yP{c:Call}(A:Agree cx o e e')(ho:o.op= .call c):fP cx e' gid o c=fP cx e gid o c:=by
 have hargs:∀x∈c.args.toList,x∈o.op.operands.toList:=fun x hx=>by
  rw[ho];simp[Op.operands,Call.operands];exact .inr (by simpa using hx)
 have hT:∀b:Bool,c.args.toList.map (pN b e')=c.args.toList.map (pN b e):=fun b=>by
  refine PU fun x hx=>?_;unfold pN nT;rw[A.opnd (hargs x hx)]
 unfold fP;rw[A.opnds hargs,hT];cases hc:c.callee with
 |invoke r m=>rfl
 |value f=>
  have hf:f∈o.op.operands.toList:=by rw[ho];simp[Op.operands,Call.operands,hc]
  cases f with
  |func g=>rfl
  |_=>simp only;rw[A.opnd hf]
 | builtin b=>
  cases b<;>simp only
  case clear=>
   split
   ·rename_i t ts x xs hts hxs;rw[A.opnd (hargs x (by rw[hxs];simp))]
   ·rfl
  case len=>
   split
   ·rename_i t ts x xs hts hxs;rw[A.opnd (hargs x (by rw[hxs];simp))]
   ·rfl
  case append=>
   split
   ·rename_i t u x y hts hxs;have hx:=hargs x (by rw[hxs];simp);rw[A.opnd hx,A.opnd (hargs y (by rw[hxs];simp))];cases ia cx.T u with
    |false=>rfl
    | true=>
     simp only[Pv,NQ];cases hha:cn cx.ann.ha o.dst with
     | true=>
      have hns:iB e' x=iB e x:=by
       cases x with
       | tmp s=>
        have hdr:(aC cx o).dr=true:=by
         unfold aC;rw[ho];simp only[hc,hha,NF]
        unfold iB;simp only;rw[A.get hx];cases (e.get s).g with
        |none=>rfl
        |some g=>simp only;rw[A.al hdr]
       |_=>rfl
      rw[hns];rfl
     | false=>
      simp only[NQ];cases hn:bB x with
      |true=>rfl
      | false=>
       simp only[NQ];cases x with
       | tmp s=>
        simp only;rw[A.get hx];have hdr:(aC cx o).dr=true:=by
         unfold aC;rw[ho];simp only[hc,hha,NQ,hxs,hn];rfl
        cases (e.get s).g with
        |none=>rfl
        |some g=>simp only;rw[A.al hdr]
       |_=>rfl
   ·rfl
omit [Dr]in
theorem AM{k:Kind}{f g b h:Foot}(hh:h.wl=true)(h1:k≠.F)(h2:k≠.H)(h3:k≠.B):(match k with|.F=>f|.H=>g|.B=>b|_=>h).wl=true:=by
 cases k<;>first|exact absurd rfl h1|exact absurd rfl h2|exact absurd rfl h3|exact hh
omit [Dr]in
theorem Cl(A:Agree cx o e e')(hb:fQ cx e gid o≠.bad):fQ cx e' gid o=fQ cx e gid o:=by
 have hm:∀ {x:Operand},x∈o.op.operands.toList->opnd e' x=opnd e x:=fun h=>A.opnd h;unfold fQ at hb |-;cases ho:o.op<;>rw[ho]at hb hm<;>simp only[Op.operands]at hm hb |-
 case move x=>exact rR A (by rw[ho];simp[Op.operands])
 case assign x=>exact rR A (by rw[ho];simp[Op.operands])
 case pick k x y=>rw[hm (x:=k) (by simp),hm (x:=x) (by simp),hm (x:=y) (by simp)]
 case box t x=>
  cases hd:o.dst with
  |none=>rfl
  |some s=>
   rw[hd]at hb;exact Bw A hd (by rw[ho];simp[Op.operands]) (fun h1 h2 h3=>by unfold aC;rw[ho,hd];exact AM rfl h1 h2 h3) hb
 case alloc t=>
  cases hd:o.dst with
  |none=>rfl
  |some s=>
   rw[hd]at hb;exact vU A hd (fun h1 h2 h3=>by unfold aC;rw[ho,hd];exact AM rfl h1 h2 h3) hb
 case load t x=>
  cases x with
  | tmp p=>
   simp only;rw[A.get (t:=p) (by rw[ho];simp[Op.operands])];cases hnl:cn cx.ann.nl o.dst&&iU (e.get p)with
   |true=>rfl
   | false=>
    rw[zw A (by rw[ho];simp[Op.operands]) (by
     rw[Pq]at hnl;rcases hnl with h|h
     ·exact .inl (by unfold aC;rw[ho];simp[h])
     ·exact .inr h)]
  |_=>rfl
 case store t x y=>
  cases x with
  | tmp p=>
   cases hd:o.dst with
   |some d=>rfl
   |none=>
    simp only;rw[A.get (t:=p) (by rw[ho];simp[Op.operands]),yp A (by rw[ho];simp[Op.operands]) (by rw[ho];simp[Op.operands]) (by unfold aC;rw[ho])]
  |_=>rfl
 case build t ps=>rw[A.parts (l:=ps.toList) (fun p hp=>by rw[ho];simp[Op.operands];exact⟨p.1,by simpa using hp⟩)]
 case buildSlice t n ps=>rw[A.parts (l:=ps.toList) (fun p hp=>by rw[ho];simp[Op.operands];exact⟨p.1,by simpa using hp⟩)]
 case nilCheck x=>
  cases x with
  |tmp p=>simp only;rw[A.get (by rw[ho];simp[Op.operands])]
  |_=>rfl
 case binOp op t x y u=>
  have hn:∀ {x:Operand},x∈o.op.operands.toList->nT e' x=nT e x:=fun h=>by unfold nT;rw[A.opnd h]
  rw[hn (x:=x) (by rw[ho];simp[Op.operands]),hn (x:=y) (by rw[ho];simp[Op.operands])]
 case unOp op t x=>rw[hm (x:=x) (by simp)]
 case convert s t x=>rw[hm (x:=x) (by simp)]
 case makeInterface t x=>rw[hm (x:=x) (by simp)]
 case makeFunc f x y=>
  rw[A.opnds (l:=x.toList) (fun z hz=>by rw[ho];simp[Op.operands];exact .inl (by simpa using hz)),A.opnds (l:=y.toList) (fun z hz=>by rw[ho];simp[Op.operands];exact .inr (by simpa using hz))]
 case makeSlice t x y=>rw[hm (x:=x) (by simp),hm (x:=y) (by simp)]
 case slice t x lo hi mx=>
  have h1:∀z:Option Operand,(∀y,z=some y->y∈o.op.operands.toList)->z.map (opnd e')=z.map (opnd e):=by
   intro z hz;cases z with
   |none=>rfl
   |some y=>simp only[Oo];rw[A.opnd (hz y rfl)]
  have hcut:nS cx e' gid t x lo hi mx=nS cx e gid t x lo hi mx\/cn cx.ann.so o.dst=false:=by
   cases hso:cn cx.ann.so o.dst with
   |false=>exact .inr rfl
   | true=>
    refine .inl ?_;unfold nS;cases x with
    |tmp s=>
     have hdr:(aC cx o).dr=true:=by unfold aC;rw[ho];simp only[hso,NF]
     simp only[A.get (t:=s) (by rw[ho];simp[Op.operands]),A.al hdr,hm (x:=.tmp s) (by simp),h1 lo (fun y hy=>by rw[ho];simp[Op.operands,hy])]
    |_=>rfl
  rcases hcut with hcut|hcut
  ·rw[hcut,hm (x:=x) (by simp),h1 lo (fun y hy=>by rw[ho];simp[Op.operands,hy]),h1 hi (fun y hy=>by rw[ho];simp[Op.operands,hy]),h1 mx (fun y hy=>by rw[ho];simp[Op.operands,hy])]
  rw[hcut];simp only[NQ];rw[hm (x:=x) (by simp),h1 lo (fun y hy=>by rw[ho];simp[Op.operands,hy]),h1 hi (fun y hy=>by rw[ho];simp[Op.operands,hy]),h1 mx (fun y hy=>by rw[ho];simp[Op.operands,hy])]
 case fieldAddr t x i=>
  cases x with
  |tmp p=>exact wB A (by rw[ho];simp[Op.operands])
  |_=>rfl
 case indexAddr t x i=>
  cases x with
  |tmp p=>exact xf A (by rw[ho];simp[Op.operands]) (by rw[ho];simp[Op.operands])
  |_=>rfl
 case field t x f=>rw[hm (x:=x) (by simp)]
 case index t x i=>rw[hm (x:=x) (by simp),hm (x:=i) (by simp)]
 case extract x i=>rw[hm (x:=x) (by simp)]
 case lookup t x i ok=>rw[hm (x:=x) (by simp),hm (x:=i) (by simp)]
 case mapUpdate t m k x=>unfold lE;rw[hm (x:=m) (by simp),hm (x:=k) (by simp),hm (x:=x) (by simp)]
 case insert t m k x=>unfold lE;rw[hm (x:=m) (by simp),hm (x:=k) (by simp),hm (x:=x) (by simp)]
 case panic x=>rw[hm (x:=x) (by simp)]
 case range t x=>rw[hm (x:=x) (by simp)]
 case entry x=>rw[hm (x:=x) (by simp)]
 case call c=>exact yP A ho
end
end Go.Av
