/- The abstract evaluator and plain laws, part 4. Condition: the table of types is the program's. -/
import Derived.Test.YtkkdcdofponfiaaGreatLc
import Derived.ChangeSame
import Derived.OpenShut
import Derived.ChangeReads
import Derived.ReadAgain
import Derived.Deep.Slices
import Derived.WideShapes
import Derived.SizedLaws
import Derived.Sort.AssemblyPlain
set_option linter.defProp false
set_option linter.unusedSimpArgs false
set_option linter.unusedVariables false
namespace Go.Av.Ap
structure Ver where
 a:Int
 b:Int
 c:Int
 deriving DecidableEq,Inhabited
structure Rng where
 lo:Ver
 hi:Ver
 deriving DecidableEq,Inhabited
def Ver.av(v:Ver):AV:=.agg [qi v.a,qi v.b,qi v.c]
def Rng.av(r:Rng):AV:=.agg [qi r.lo.a,qi r.lo.b,qi r.lo.c,qi r.hi.a,qi r.hi.b,qi r.hi.c]
def mH(l:List Ver):AV:=.sl (l.map Ver.av)
def qe(l:List Rng):AV:=.sl (l.map Rng.av)
@[simp] theorem wO(v:Ver):ab v.av=[.int .i64 v.a,.int .i64 v.b,.int .i64 v.c]:=rfl
@[simp] theorem wN(r:Rng):ab r.av=[.int .i64 r.lo.a,.int .i64 r.lo.b,.int .i64 r.lo.c,.int .i64 r.hi.a,.int .i64 r.hi.b,.int .i64 r.hi.c]:=rfl
@[simp] theorem EN(v:Ver):AV.agg [qi v.a,qi v.b,qi v.c]=v.av:=rfl
@[simp] theorem EM(r:Rng):AV.agg [qi r.lo.a,qi r.lo.b,qi r.lo.c,qi r.hi.a,qi r.hi.b,qi r.hi.c]=r.av:=rfl
@[simp] theorem Mr(g:Nat->Nat->Nat->Nat->Bool->AV)(v:Ver):cl g v.av=v.av:=rfl
@[simp] theorem Mo(g:Nat->Nat->Nat->Nat->Bool->AV)(v:Rng):cl g v.av=v.av:=rfl
@[simp] theorem Pn(g:Nat->Nat->Nat->Nat->Bool->AV)(l:List Ver):cl g (mH l)=mH l:=by grind [mH,cl,fI,Mr]
@[simp] theorem I0(g:Nat->Nat->Nat->Nat->Bool->AV)(l:List Rng):cl g (qe l)=qe l:=by grind [qe,cl,fI,Mo]
@[simp] theorem yJ(v:Ver):cq 3 v.av=true:=rfl
@[simp] theorem yH(v:Rng):cq 6 v.av=true:=rfl
structure Seen where
 prog:List Mod
 vsns:List Ver
 calls:List Call
 whole:Bool
 deriving Inhabited
structure Adv where
 id:Int
 name:az
 ranges:List Rng
 func:az
 cond:Exp
 deriving Inhabited
def Seen.av(s:Seen):AV:=.agg [mods s.prog,mH s.vsns,Ap.calls s.calls,.bool s.whole]
def Adv.av(a:Adv):AV:=.agg ([.int .i64 a.id,.str a.name,qe a.ranges,.str a.func]++a.cond.cells)
structure CallLim (c:Call):Prop where
 len:c.args.length<=140737488355328
 args:∀v∈c.args,v.Lim
structure Seen.Lim (s:Seen):Prop where
 len:s.prog.length<=140737488355328
 mods:∀m∈s.prog,m.Lim
 vsns:s.vsns.length<=140737488355328
 lenc:s.calls.length<=140737488355328
 calls:∀c∈s.calls,CallLim c
structure Adv.Lim (a:Adv):Prop where
 ranges:a.ranges.length<=140737488355328
 cond:a.cond.Lim
def ra(l:List Seen):AV:=.sl (l.map Seen.av)
@[simp] theorem pz(s:Seen):ab s.av=[mods s.prog,mH s.vsns,Ap.calls s.calls,.bool s.whole]:=rfl
@[simp] theorem AS(s:Seen):AV.agg [mods s.prog,mH s.vsns,Ap.calls s.calls,.bool s.whole]=s.av:=rfl
@[simp] theorem lX(a:Adv):ab a.av=[.int .i64 a.id,.str a.name,qe a.ranges,.str a.func,.int .i64 a.cond.op,.int .i64 a.cond.n,.str a.cond.s,.str a.cond.m,strs a.cond.names,bY a.cond.args]:=by
 obtain⟨i,n,r,f,c⟩:=a;cases c;rfl
@[simp] theorem pO(a:Adv):AV.agg [.int .i64 a.id,.str a.name,qe a.ranges,.str a.func,.int .i64 a.cond.op,.int .i64 a.cond.n,.str a.cond.s,.str a.cond.m,strs a.cond.names,bY a.cond.args]=a.av:=by
 obtain⟨i,n,r,f,c⟩:=a;cases c;rfl
@[simp] theorem mV(g:Nat->Nat->Nat->Nat->Bool->AV)(s:Seen):cl g s.av=s.av:=by
 unfold Seen.av;simp_all[cl,ek]
@[simp] theorem nv(g:Nat->Nat->Nat->Nat->Bool->AV)(a:Adv):cl g a.av=a.av:=by
 rw[<- pO];simp_all[cl,ek]
@[simp] theorem Mp(g:Nat->Nat->Nat->Nat->Bool->AV)(l:List Seen):cl g (ra l)=ra l:=by grind [ra,cl,fI,mV]
@[simp] theorem ux(v:Seen):cq 4 v.av=true:=rfl
@[simp high] theorem Ei(x:Seen):bn 4 x.av=af x.av:=by grind [bH,ux,pz,AS]
@[simp high] theorem nu(x:Seen):aC 4 [] x.av=af x.av:=by grind [bU,ux,pz,AS]
@[simp] theorem XY(v:Adv):cq 10 v.av=true:=by
 rw[<- pO];rfl
@[simp high] theorem G7(x:Adv):bn 10 x.av=af x.av:=AN
end Go.Av.Ap
namespace Go.Av
variable [Dr]
open Go.RowKit Go.WideShapes Go.ChangeShapes
theorem Left.below{S S':ak}{β β':List bG}{w w':World}{h':Hp}(L:Left (cK [] []) S β w S' β' w' h'):Below w.heap.size w w':=
 ⟨L.gro.os,L.gro.tape,L.gro.out,L.gro.size,fun k hk=>(L.keep k hk (by rintro⟨l,_,_,h1,_⟩;simp at h1)).1⟩
def mJ(W:World):ak:=fun b o=>W.cell? ⟨b,o,none⟩
omit [Dr]in
theorem OW(W:World):Wf (mJ W) W:=fun _ _ _ h=>h
omit [Dr]in
theorem KI{W:World}(h:GOKw W):zA (mJ W) [] [] W:=⟨h,fun b _ ho=>by obtain⟨l,_,_,h1,_⟩:=ho;simp at h1,Dy h⟩
theorem KQ{P:Program}{p:Pg}(G:GoodPg P p)(hO:eY p){f:FuncId}{args:List AV}{vs:List Value}{W:World}(hg:GOKw W)(hv:aZ (mJ W) [] args vs)(ht:callW p f args []= .ok (.bool true) []):Calls P f vs.toArray W fun e W'=>e= .returned (.bool true)/\Below W.heap.size W W':=by
 have h:=(mS G hO f args [] (mJ W) [] W vs (by rw[ht];simp) (KI hg) (OW W) ⟨rfl,fun _=>.no,fun l cs hl=>by simp at hl⟩ hv).1;rw[ht]at h;refine h.mono fun e W' hp=>?_;obtain⟨S',β',v,rfl,hv,L,_⟩:=hp;simp only[VR]at hv;subst hv;exact⟨rfl,L.below⟩
section
variable {H:Type} {enc:TypeId×Value->H} {P:Program}
omit [Dr]in
theorem zX{f:Func}{s:ChangeSpec}{apart fresh handsOn again:Bool}{W W':World}{args:Array Value}{v:Value}{ds gs:List (DataW H)}{before pa pv:List MemPlace}(hW:DataW.Whole enc P f.params.toList s.vars apart W args.toList ds gs before)(hres:∀(b:Nat)(sp:Nat->Bool)(hd:Bool),DataW.TrodAll enc P W' b sp hd f.resultTypes.toList (v.resultList f.resultTypes.size) (s.fn H (ds++gs)).results [])(hargs:∀sp:Nat->Bool,(∀p∈before,sp p.block=true)->DataW.TrodAll enc P W' 0 sp true f.params.toList args.toList (s.fn H (ds++gs)).args pa)(hvars:∀sp:Nat->Bool,(∀p∈before,sp p.block=true)->DataW.TrodVars enc P W' sp s.vars (s.fn H (ds++gs)).vars pv)(hps:before=pa++pv)(hb:Below W.heap.size W W')(hok:∀(j:Nat)(t:TypeId)(r:Value),f.resultTypes[j]? = some t->(v.resultList f.resultTypes.size)[j]? = some r->Value.okWide P W' .any 0 t r):
  s.post enc P f apart fresh handsOn again W args v W':=by
 have hlt:∀p∈before,p.block<W.heap.size:=fun p hp=>hW.lt p hp;have hold:∀p∈before,(fun b=>decide (b<W.heap.size)) p.block=true:=fun p hp=>qr
 refine⟨ds,gs,before,[],pa,pv,hW,hres _ _ _,hargs _ hold,hvars _ hold,World.keptBut_mono (fun p hp=>⟨hp,?_⟩) (hb.frame (· ∈before)),fun _=>?_⟩
 ·grind
 ·obtain⟨_,_,_,_,_,hz,hn⟩:=hW;refine⟨hok,_,_,([]++pa)++pv,⟨[]++pa,pv,trodAll_append (hargs _ (fun _ _=>rfl)) (hres _ _ _),hvars _ (fun _ _=>rfl),rfl,?_,?_⟩,?_⟩
  ·intro b off hp;have hin:MemPlace.cell b off∈before:=by rw[hps];simpa using hp
   rw[hb.frozen (hlt _ hin)];exact hz b off hin
  all_goals grind
end
end Go.Av
namespace Go.Av
open Go.RowKit
section
variable {H:Type} {enc:TypeId×Value->H} {P:Program} {w w':World}
theorem rf{base:Nat}{spare:Nat->Bool}{held:Bool}:∀ {ts:List TypeId} {vs:List Value} {ds:List (DataW H)} {ps:List MemPlace},DataW.TrodAll enc P w base spare held ts vs ds ps->(∀p∈ps,w.sameAt w' p)->DataW.TrodAll enc P w' base spare held ts vs ds ps
 |[],[],[],_,h,_=>h
 |_:: _,_:: _,_:: _,_,⟨p,q,⟨n,h1⟩,h2,e⟩,hs=>⟨p,q,⟨n,DataW.trod_carry n _ _ _ h1 (fun x hx=>hs x qr)⟩,rf h2 (fun x hx=>hs x qr),e⟩
theorem Dk(hb:Below w.heap.size w w'){p:MemPlace}(hp:p.block<w.heap.size):w.sameAt w' p:=by
 cases p with
 |cell b off=>
  have:=hb.block b hp
  show w'.cell? ⟨b,off,none⟩=w.cell? ⟨b,off,none⟩;simp only[World.cell?,this]
 |map b=>exact hb.block b hp
theorem GP{T:TypeId->Prop}(K:Kids P T)(hz:∀t e,T t->P.underlying t=some (.slice e)->0<P.cellsOf e){ts:List TypeId}{vs:List Value}{ds:List (DataW H)}{ps:List MemPlace}(hT:∀t∈ts,T t)(h:DataW.TrodAll enc P w 0 (fun _=>true) true ts vs ds ps)(hlt:∀p∈ps,p.block<w.heap.size)(hb:Below w.heap.size w w')(sp:Nat->Bool)(hsp:∀p∈ps,sp p.block=true):DataW.TrodAll enc P w' 0 sp true ts vs ds ps:=
 (rf h fun p hp=>Dk hb (hlt p hp)).respare K hz hT hsp
end
theorem Jj{α:Type}(Q:Nat->α->Prop):∀n,(∀i,i<n->∃x,Q i x)->∃l:List α,l.length=n/\∀i x,l[i]? = some x->Q i x
 |0,_=>⟨[],rfl,fun i x h=>by simp at h⟩
 |n+1,h=>by
  obtain⟨l,h1,h2⟩:=Jj Q n fun i hi=>h i WD;obtain⟨y,hy⟩:=h n WD;refine⟨l++[y],by simp[h1],fun i x hx=>?_⟩
  grind
end Go.Av
namespace Go.Av
open Go.RowKit Go.WideShapes Go.ChangeShapes
variable {held:Bool}{base:Nat}
section
variable {H:Type} (enc:TypeId×Value->H) (P:Program) (W:World)
def Rd{α:Type}(N:Nat)(t:TypeId)(cells:α->List AV)(Ok:α->Prop):Prop:=∀(base:Nat)(held:Bool)(n:Nat),n<N->∀(cs:List Value)(x:DataW H×List MemPlace),DataW.trod enc P W base (fun _=>true) held n t cs=some x->(∀k∈x.1.weights P t,k<=reachBytes)->∃a:α,aZ (mJ W) [] (cells a) cs/\Ok a
def OU{α:Type}(N:Nat)(tot:Nat)(o:Nat)(fs:List Field)(cells:α->List AV)(Ok:α->Prop):Prop:=∀(base:Nat)(held:Bool)(n:Nat),n<N->∀(cs:List Value)(xs:List (DataW H×List MemPlace)),cs.length=tot->
 xs.length=fs.length->(∀(i:Nat)(f:Field),fs[i]? = some f->DataW.trod enc P W base (fun _=>true) held n f.type ((cs.drop f.offset).take (P.cellsOf f.type))=xs[i]?)->(∀k∈DataW.weightsEach P (fs.map (·.type)) (xs.map (·.1)),k<=reachBytes)->∃a:α,aZ (mJ W) [] (cells a) (cs.drop o)/\Ok a
variable {enc P W} {α β:Type} {N:Nat} {t:TypeId}
theorem Rd.zero{cells:α->List AV}{Ok:α->Prop}:Rd enc P W 0 t cells Ok:=fun _ _ n hn=>absurd hn WD
theorem Rd.le{cells:α->List AV}{Ok:α->Prop}(h:Rd enc P W N t cells Ok){M:Nat}(hm:M<=N):Rd enc P W M t cells Ok:=fun b hd n hn=>h b hd n WD
theorem Rd.map{cells:α->List AV}{Ok:α->Prop}(h:Rd enc P W N t cells Ok)(g:α->β){cells':β->List AV}{Ok':β->Prop}(hc:∀a,cells' (g a)=cells a)(ho:∀a,Ok a->Ok' (g a)):Rd enc P W N t cells' Ok':=by
 intro b hd n hn cs x hx hw;obtain⟨a,h1,h2⟩:=h b hd n hn cs x hx hw
 grind
theorem Dc(ht:P.underlying t=some .bool):Rd enc P W N t (fun b:Bool=>[.bool b]) (fun _=>True):=by
 intro b hd n hn cs x hx hw;obtain⟨b,rfl,_⟩:=DataW.trod_bool ht hx;simp_all[aZ,VR]
theorem jz{k:IntKind}(ht:P.underlying t=some (.int k)):Rd enc P W N t (fun n:Int=>[.int k n]) (fun n=>(Lit.int k n).wf=true):=by
 intro b hd n hn cs x hx hw;obtain⟨b,rfl,_,hwf⟩:=DataW.trod_int ht hx;exact⟨b,by simp[aZ,VR],hwf⟩
theorem nG(ht:P.underlying t=some .string):Rd enc P W N t (fun s:List UInt8=>[.str s]) (fun s=>s.length<=reachBytes):=by
 intro b hd n hn cs x hx hw;obtain⟨s,rfl,rfl,_⟩:=DataW.trod_string ht hx;simp_all[aZ,VR,DataW.weights]
def Rr(cells:α->List AV)(ev:α->AV)(sz:Nat):Prop:=∀(a:α)(S:ak)(β:List bG)(vs:List Value),aZ S β (cells a) vs->vs.length=sz->∃v,VR S β (ev a) v/\v.cells.toList=vs
theorem jc{cells:α->List AV}{ev:α->AV}{sz:Nat}(he:∀a,ev a= .agg (cells a)):Rr cells ev sz:=fun a S β vs h hl=>⟨.agg vs.toArray,by rw[he];simp only[VR];grind,by simp[Value.cells]⟩
theorem Ew{ev:α->AV}(ho:∀a,aG (ev a)=true):Rr (fun a=>[ev a]) ev 1:=fun a S β vs h hl=>by
 simp only[aZ]at h;obtain⟨v,_,rfl,h,rfl⟩:=h
 grind [ke]
theorem qh{e:TypeId}:∀ {l:List (DataW H)} {d:DataW H},d∈l->∀k∈d.weights P e,k∈DataW.weightsAll P e l
 |x:: l,d,hd,k,hk=>by
  simp only[DataW.weightsAll,aba];rcases aaT.1 hd with rfl|hd
  ·exact .inl hk
  ·exact .inr (qh hd k hk)
theorem iI{e:TypeId}{cells:α->List AV}{Ok:α->Prop}(h:Rd enc P W N e cells Ok)(ht:P.underlying t=some (.slice e)){sz by_:Nat}(hsz:P.cellsOf e=sz)(h0:0<sz)(hby:P.bytesOf e=by_){ev:α->AV}(hev:Rr cells ev sz):
  Rd enc P W N t (fun l:List α=>[.sl (l.map ev)]) (fun l=>l.length*by_<=reachBytes/\∀a∈l,Ok a):=by
 intro base hd n hn cs x hx hw;rcases DataW.trod_slice ht hx with⟨rfl,rfl⟩|⟨a,len,cap,elems,rest,m,rfl,rfl,rfl,hb,hle,hm,hlen,hel,hsp,_⟩
 ·exact⟨[],by simp only[aZ,acq,VR];grind,AI,fun a ha=>by cases ha⟩
 obtain⟨hrl,hre⟩:=hsp rfl;rw[hsz]at hel hre;simp only[DataW.weights,ht,aaT,aba,hby]at hw;have hspot:0<cap->a.spot=none:=by
  intro hc;have:∃y,(W.cells? base (a.add 0) sz).bind (DataW.trod enc P W base (fun _=>true) hd m e)=some y:=by
   by_cases h1:0<len
   ·grind
   ·have:=hre 0 WD
    grind
  obtain⟨y,hy⟩:=this;obtain⟨cs,hcs,_⟩:=ado.1 hy;obtain⟨_,hl,hc⟩:=World.cells?_some hcs;have h2:=hc 0 h0;rw[aaE WD]at h2;have h3:=World.cell?_spot h2;have e:(a.add 0).add 0=a:=by unfold Addr.add;simp
  rwa [e]at h3
 have hx:∀i,i<len->∃y:α,(∃v,VR (mJ W) [] (ev y) v/\v.cells.size=sz/\ia (mJ W) a.block (a.off+i*sz) v.cells.toList)/\Ok y:=by
  intro i hi;have h1:=hel i hi;rw[aaE WD]at h1;obtain⟨cs,hcs,htr⟩:=ado.1 h1;obtain⟨y,hy,hok⟩:=h base hd m WD cs _ htr (fun k hk=>hw k (.inr (.inl (qh (abe.2 ⟨_,List.getElem_mem _,rfl⟩) k hk))));obtain⟨_,hl,hc⟩:=World.cells?_some hcs;obtain⟨v,hv,hvc⟩:=hev y _ _ cs hy hl;refine⟨y,⟨v,hv,qr,fun j u hj=>?_⟩,hok⟩;rw[hvc]at hj;have hjl:j<sz:=by
   rcases aa8 j cs.length with h|h
   ·omega
   ·grind
  have h2:=hc j hjl;rw[hj]at h2;unfold mJ;have hs:=hspot WD;have e:(a.add (i*sz)).add j=⟨a.block,a.off+i*sz+j,none⟩:=by
   obtain⟨b,o,s⟩:=a;simp only at hs;subst hs;rw[add_plain,add_plain]
  rw[<- e];exact h2
 obtain⟨l,hl1,hl2⟩:=Jj (fun i y=>(∃v,VR (mJ W) [] (ev y) v/\v.cells.size=sz/\ia (mJ W) a.block (a.off+i*sz) v.cells.toList)/\Ok y) len hx;refine⟨l,?_,?_,fun y hy=>?_⟩
 ·simp only[aZ,VR,abA];refine⟨_,_,rfl,⟨some a,cap,by rw[hl1],WD,(fun e=>by cases e),fun q hq=>?_⟩,rfl⟩;cases hq;refine⟨hspot,sz,.of_get fun i e he=>?_⟩
  grind
 ·have:=hw _ (.inl rfl)
  grind
 ·obtain⟨i,hi,e⟩:=ab3 hy;exact (hl2 i y qr).2
theorem gC{tot:Nat}:OU enc P W N tot tot [] (fun _:Unit=>[]) (fun _=>True):=fun base hd n hn cs xs hl _ _ _=>⟨(),by simp[aZ,<- hl],trivial⟩
theorem aH{tot o k:Nat}{f:Field}{fs:List Field}{c1:α->List AV}{Ok1:α->Prop}{c2:β->List AV}{Ok2:β->Prop}(h1:Rd enc P W N f.type c1 Ok1)(ho:f.offset=o)(hk:P.cellsOf f.type=k)(h2:OU enc P W N tot (o+k) fs c2 Ok2):
  OU enc P W N tot o (f:: fs) (fun x:α×β=>c1 x.1++c2 x.2) (fun x=>Ok1 x.1/\Ok2 x.2):=by
 intro base hd n hn cs xs hl hx hf hw
 match xs,hx with
 |x:: xs,hx=>
  have hf0:=hf 0 f rfl;rw[ho,hk]at hf0;simp only[aa0,DataW.weightsEach,aba]at hw;obtain⟨a,ha,oa⟩:=h1 base hd n hn _ x hf0 fun k hk=>hw k (.inl hk);obtain⟨b,hb,ob⟩:=h2 base hd n hn cs xs hl (by simpa using hx) (fun i g hg=>by simpa using hf (i+1) g (by simpa using hg)) fun k hk=>hw k (.inr hk);refine⟨(a,b),?_,oa,ob⟩
  have:=ha.append hb
  grind [List.drop_drop,List.take_append_drop]
theorem eW{fs:Array Field}{tot:Nat}{cells:α->List AV}{Ok:α->Prop}(ht:P.underlying t=some (.struct fs))(hc:P.cellsOf t=tot)(h:OU enc P W N tot 0 fs.toList cells Ok):Rd enc P W (N+1) t cells Ok:=by
 intro base hd n hn cs x hx hw;obtain⟨xs,m,rfl,rfl,hl,hxs,hf⟩:=DataW.trod_struct ht hx;simp only[DataW.weights,ht]at hw;obtain⟨a,h1,h2⟩:=h base hd m WD cs xs (by rw[hl,hc]) (by simpa using hxs) (fun i f hi=>hf i f (by simpa using hi)) hw
 grind
theorem NY{cells:α->List AV}{Ok:α->Prop}(h:∀N,Rd enc P W N t cells Ok){v:Value}{d:DataW H}{p:List MemPlace}(hd:DataW.Trod enc P W base (fun _=>true) held t v d p)(hw:∀k∈d.weights P t,k<=reachBytes):
  ∃a:α,aZ (mJ W) [] (cells a) v.cells.toList/\Ok a:=by
 obtain⟨n,hn⟩:=hd;exact h (n+1) base held n WD _ _ hn hw
theorem Jv{f:α->AV}{Ok:α->Prop}(h:∀N,Rd enc P W N t (fun a=>[f a]) Ok){v:Value}{d:DataW H}{p:List MemPlace}(hv:v.cells.toList=[v])(hd:DataW.Trod enc P W base (fun _=>true) held t v d p)(hw:∀k∈d.weights P t,k<=reachBytes):
  ∃a:α,VR (mJ W) [] (f a) v/\Ok a:=by
 obtain⟨a,h1,h2⟩:=NY h hd hw;rw[hv]at h1;simp only[aZ]at h1
 grind
theorem Aq{e:TypeId}{r:Reach}{b0:Nat}{f:α->AV}{Ok:α->Prop}(h:∀N,Rd enc P W N t (fun a=>[f a]) Ok)(ht:P.underlying t=some (.slice e)){v:Value}{d:DataW H}{p:List MemPlace}(hok:Value.okWide P W r b0 t v)(hd:DataW.Trod enc P W base (fun _=>true) held t v d p)(hw:∀k∈d.weights P t,k<=reachBytes):∃a:α,VR (mJ W) [] (f a) v/\Ok a:=by
 obtain⟨a,len,cap,rfl⟩:=okWide_slice ht hok;exact Jv h rfl hd hw
theorem Ce{k:IntKind}{r:Reach}{b0:Nat}{f:α->AV}{Ok:α->Prop}(h:∀N,Rd enc P W N t (fun a=>[f a]) Ok)(ht:P.underlying t=some (.int k)){v:Value}{d:DataW H}{p:List MemPlace}(hok:Value.okWide P W r b0 t v)(hd:DataW.Trod enc P W base (fun _=>true) held t v d p)(hw:∀k∈d.weights P t,k<=reachBytes):∃a:α,VR (mJ W) [] (f a) v/\Ok a:=by
 obtain⟨a,rfl⟩:=okWide_int ht hok;exact Jv h rfl hd hw
theorem wV{fs:Array Field}{r:Reach}{b0:Nat}{f:α->AV}{Ok:α->Prop}{cells:α->List AV}(h:∀N,Rd enc P W N t cells Ok)(hf:∀a,f a= .agg (cells a))(ht:P.underlying t=some (.struct fs)){v:Value}{d:DataW H}{p:List MemPlace}(hok:Value.okWide P W r b0 t v)(hd:DataW.Trod enc P W base (fun _=>true) held t v d p)(hw:∀k∈d.weights P t,k<=reachBytes):∃a:α,VR (mJ W) [] (f a) v/\Ok a:=by
 obtain⟨cs,rfl,_⟩:=okWide_struct ht hok;obtain⟨a,h1,h2⟩:=NY h hd hw;refine⟨a,?_,h2⟩;rw[hf];simp only[VR];exact⟨cs.toList,AI,h1⟩
theorem iU{ts:List TypeId}{ds:List (DataW H)}(h:(DataW.weightsEach P ts ds).all (· <=reachBytes)=true){j:Nat}{u:TypeId}{d:DataW H}(ht:ts[j]? = some u)(hd:ds[j]? = some d):∀k∈d.weights P u,k<=reachBytes:=fun k hk=>by
 have:=aaS.1 h _ (DataW.weights_mem_each ht hd k hk)
 grind
end
end Go.Av
namespace Go.Av
variable [Dr]
variable {w:World}
section
omit [Dr]
theorem dh.grow{S:ak}{β:List bG}{w':World}{h:Hp}(hh:dh S β w h)(hb:∀b,b<w.heap.size->w'.heap[b]? = w.heap[b]?):dh S β w' h:=by
 obtain⟨hlen,ω,hr⟩:=hh;exact⟨hlen,ω,hr.rows (ak.le_refl S) (hG.refl β) hlen fun l cs hl _=>.inl ⟨hl,fun b hb' ho=>⟨ho,hb b hb',fun o h=>h⟩⟩⟩
theorem dh.low{S:ak}{β:List bG}{h:Hp}(hh:dh S β w h){b:Nat}(hb:cK β h b):b<w.heap.size:=by
 obtain⟨_,ω,hr⟩:=hh;obtain⟨l,cs,n,h1,h2,h3⟩:=hb;obtain⟨b',x,k1,k2,_⟩:=hr.own h1 h2
 grind
theorem Wf.grow{S:ak}{w':World}(hw:Wf S w)(hb:∀b,b<w.heap.size->w'.heap[b]? = w.heap[b]?):Wf S w':=
 fun b o v hv=>by rw[cell_of_heap (hb b (hw.lt hv))];exact hw b o v hv
end
theorem Be{S S':ak}{β β':List bG}{w2 w' w'':World}{h h':Hp}(hg:Gro w w2)(hold:∀b,b<w.heap.size->w2.heap[b]? = w.heap[b]?)(L:Left (cK β h) S β w2 S' β' w' h')(hg':Gro w' w'')(hsame:∀b,¬(w.heap.size<=b/\b<w2.heap.size)->w''.heap[b]? = w'.heap[b]?)(hw:Wf S w)(hh:dh S β w h):Left (cK β h) S β w S' β' w'' h':=by
 have hs:=hg.size;refine⟨L.le,L.ext,fun b o v hv=>?_,(hg.trans L.gro).trans hg',fun b hb hE=>?_,?_,fun b hb=>?_⟩
 ·by_cases hb:w.heap.size<=b/\b<w2.heap.size
  ·have hE:¬cK β h b:=fun ho=>by have:=hh.low ho;omega
   have:=(L.keep b hb.2 hE).2 o
   rw[this,hw.none hb.1]at hv;cases hv
  ·rw[cell_of_heap (hsame b hb)];exact L.wf b o v hv
 ·have h1:=L.keep b WD hE
  grind
 ·obtain⟨hlen,ω,hr⟩:=L.heap;refine⟨hlen,ω,hr.rowsA (ak.le_refl S') (hG.refl β') hlen fun l cs hl hne=>.inl ⟨hl,fun b _ ⟨n,h1⟩ h3=>⟨h3,hsame b fun hb=>?_,fun o h=>h⟩⟩⟩;rcases L.owned b ⟨l,cs,_,hl,hne,h1⟩with ho|ho
  ·have:=hh.low ho;omega
  ·omega
 ·rcases L.owned b hb with ho|ho
  all_goals grind
theorem Gro.setCell(w:World)(a:Addr)(v:Value):Gro w (w.setCell a v):=⟨AI,rfl,rfl,rfl,fun _=>aaI _⟩
omit [Dr]in
theorem jG{a:Addr}{v:Value}{b:Nat}(h:b≠a.block):(w.setCell a v).heap[b]? = w.heap[b]?:=by
 simp only[World.setCell,acI]
 grind
end Go.Av
namespace Go.Av.Ap
open Go Go.Av
def wv(b:UInt8):Bool:=decide (97<=b.toNat)&&decide (b.toNat<=122)
def Hg(b:UInt8):Bool:=decide (48<=b.toNat)&&decide (b.toNat<=57)
def wT(b:UInt8):Bool:=wv b||Hg b
def vU(s:az):Bool:=!(s== [])&&wv (s.headD 0)&&decide (s.length<=20)&&((s.takeWhile wT).length== s.length)
def qF:az:=[32,97,110,100,32,98,97,99,107,32,98,111,111,108,32,99,108,111,99,107,32,101,108,115,101,32,102,97,108,115,101,32,102,105,108,101,115,32,102,110,32,102,111,114,119,97,114,100,32,103,101,116,32,105,102,32,105,110,32,105,110,116,32,108,101,116,32,109,111,100,117,108,101,32,109,111,118,101,32,110,101,116,32,110,111,116,32,111,114,32,112,117,98,32,115,101,99,114,101,116,115,32,115,101,116,32,116,104,101,110,32,116,114,117,101,32,117,115,101,32,118,97,114,32]
def dY(s:az):Bool:=vU s&&!(Lib.contains qF ([32]++s++[32]))
def Lx{s:az}(h:vU s=true):s.length<=20:=by
 simp_all[vU]
def gH(p f:az):Bool:=!(aK f p||f== p)
def pE{α:Type}(Q:α->α->Bool):List α->Bool
 |x:: y:: r=>Q x y&&pE Q (y:: r)
 |_=>true
theorem D8{α:Type}[Inhabited α](Q:α->α->Bool):(l:List α)->(pE Q l=true↔∀k,k+1<l.length->Q l[k]! l[k+1]! = true)
 |[]=>by simp[pE]
 |[x]=>by simp[pE]
 | x:: y:: r=>by
  simp only[pE,aaD,D8 Q (y:: r)];constructor
  ·rintro⟨h1,h2⟩ k hk;cases k with
   |zero=>simpa using h1
   |succ k=>grind
  ·intro h;refine⟨by simpa using h 0 AI,fun k hk=>?_⟩;simpa using h (k+1) (by simpa using hk)
def IJ{α:Type}[Inhabited α](P:α->Bool)(Q:α->α->Bool)(l:List α):(List.range' 0 l.length).all (fun k=>P l[k]! && (decide (k=0)||Q l[k-1]! l[k]!))=(l.all P&&pE Q l):=by
 rw[acP,aaD,<- GM P l,D8]
 grind
def fC:Nat->Ty->Bool
 |0,_=>false
 |d+1,t=>decide (0<=t.kind)&&decide (t.kind<3)&&decide (t.fields.length<=8)&&(t.kind== 2||t.fields.length== 0)&&(t.fields.all (fun f=>dY f.1&&fC d f.2)&&pE (fun a b=>gH a.1 b.1) t.fields)
theorem kN(d:Nat)(t:Ty):fC (d+1) t=(decide (0<=t.kind)&&decide (t.kind<3)&&decide (t.fields.length<=8)&&(t.kind== 2||t.fields.length== 0)&&(t.fields.all (fun f=>dY f.1&&fC d f.2)&&pE (fun a b=>gH a.1 b.1) t.fields)):=rfl
abbrev bZ(t:Ty):Bool:=fC 4 t
mutual
def GT:Ty->Ty->Bool
 |.mk k fs,a=>a.kind== k&&wg fs a.fields
def wg:List (az×Ty)->List bQ->Bool
 |[],_=>true
 |f:: fs,l=>GU f l&&wg fs l
def GU:az×Ty->List bQ->Bool
 |(n,t),l=>match bV (fun z=>z.1== n) l with
  |some z=>GT t z.2
  |none=>false
end
def cg(a b:Ty):Bool:=GT b a
theorem uV:(fs:List bQ)->(l:List bQ)->wg fs l=fs.all fun f=>GU f l
 |[],_=>rfl
 |f:: fs,l=>by simp[wg,uV fs l]
def Ax(a b:Ty):cg a b=(a.kind== b.kind&&b.fields.all fun f=>match bV (fun z=>z.1== f.1) a.fields with|some z=>cg z.2 f.2|none=>false):=by
 cases b with
 |mk k fs=>
  grind [GT,uV,Ty.kind,Ty.fields,GU,cg]
def gh(a b:Int):Int:=IntKind.i64.wrap (BitVec.ofInt 64 a &&& ~~~ BitVec.ofInt 64 b).toNat
structure Sig.Lim (s:Sig):Prop where
 plen:s.params.length<=140737488355328
 ptys:∀t∈s.params,t.Lim
 result:s.result.Lim
structure Face.Lim (f:Face):Prop where
 len:f.funcs.length<=140737488355328
 sigs:∀s∈f.funcs,s.Lim
@[simp] theorem wZ(x:Sig):bn 5 x.av=af x.av:=AN
@[simp] theorem Ci(x:Sig):aC 5 [] x.av=af x.av:=AN
theorem fV:(a:az)->aK a a=false
 |[]=>rfl
 |x:: a=>by simp[aK,fV a]
theorem fF:(a b c:az)->aK a b=true->aK b c=true->aK a c=true
 |_,[],c,h,_=>by cases ‹az› <;> simp[aK]at h
 |_,_:: _,[],_,h=>by simp[aK]at h
 |[],_:: _,_:: _,_,_=>by simp[aK]
 | x:: a,y:: b,z:: c,h1,h2=>by
  simp only[aK,abi,aaD,aaL,aa9,UInt8.lt_iff_toNat_lt]at h1 h2 |-;rcases h1 with h1|⟨rfl,h1⟩
  ·grind
  ·rcases h2 with h2|⟨rfl,h2⟩
   ·exact .inl h2
   ·exact .inr ⟨rfl,fF a b c h1 h2⟩
theorem iK:(a b:az)->aK a b=false->a≠b->aK b a=true
 |[],[],_,h=>absurd rfl h
 |[],_:: _,h,_=>by simp[aK]at h
 |_:: _,[],_,_=>by simp[aK]
 | x:: a,y:: b,h1,h2=>by
  simp only[aK,abT,aca,abi,aaD,aaL,aa9,UInt8.lt_iff_toNat_lt]at h1 |-;by_cases e:x=y
  ·subst e;refine .inr ⟨rfl,iK a b ?_ fun e=>h2 (by rw[e])⟩
   grind
  grind [UInt8.toNat_inj]
def wQ(p f:az):gH p f=true↔aK p f=true:=by
 unfold gH;rw[abc,abT];constructor
 ·grind [iK]
 ·intro h;refine⟨?_,?_⟩
  ·cases hc:aK f p with
   |false=>rfl
   |true=>grind [fF,fV]
  ·rw[aaN];rintro rfl;rw[fV]at h;cases h
theorem Ar{α:Type}{Q:α->α->Bool}{nm:α->az}(hQ:∀x y,Q x y=true->aK (nm x) (nm y)=true):(l:List α)->pE Q l=true->l.Pairwise fun x y=>aK (nm x) (nm y)=true
 |[],_=>.nil
 |[x],_=>AI
 |x:: y:: r,h=>by
  simp only[pE,aaD]at h;have ih:=Ar hQ (y:: r) h.2;refine .cons (fun z hz=>?_) ih;have h1:=hQ _ _ h.1;rcases aaT.1 hz with rfl|hz
  all_goals grind [fF,List.pairwise_cons]
def MU{t:Ty}{f:bQ}(h:f∈t.fields):SizeOf.sizeOf f.2<SizeOf.sizeOf t:=by
 cases t with
 |mk k fs=>
  have h1:SizeOf.sizeOf f<SizeOf.sizeOf fs:=acv h
  grind
variable {h:Hp}{cs:List AV}{q t:Nat}{ti:TI}
section
variable {α:Type} {f:α->AV} {sz:Nat}
def rowOf(f:α->AV)(l:List α):List AV:=(l.map f).flatMap ab
theorem mB(x:α)(l:List α):rowOf f (x:: l)=ab (f x)++rowOf f l:=by simp[rowOf]
theorem jh(hs:∀x,(ab (f x)).length=sz):(l:List α)->(rowOf f l).length=l.length*sz
 |[]=>by simp[rowOf]
 |x:: l=>by rw[mB,abh,hs,jh hs l,aaX,ac6];omega
theorem kO(hs:∀x,(ab (f x)).length=sz):(l:List α)->(i:Nat)->(h:i<l.length)->((rowOf f l).drop (i*sz)).take sz=ab (f l[i])
 |x:: l,0,_=>by
  simp_all[mB]
 |x:: l,i+1,h=>by
  rw[mB,show (i+1)*sz=(ab (f x)).length+i*sz by grind,ac1,List.drop_eq_nil_of_le WD,Nat.add_sub_cancel_left,aaU];simpa using kO hs l i (by simpa using h)
theorem Ac{xs:List AV}{off:Nat}(h:(cs.drop off).take xs.length=xs):setCells cs off xs=cs:=by
 grind [setCells,List.drop_drop,List.take_append_drop]
theorem uk(hs:∀x,(ab (f x)).length=sz)(hag:∀x,f x= .agg (ab (f x)))(hcl:∀x g,cl g (f x)=f x)(hz:0<sz){l:List α}(hq:h[q]? = some (rowOf f l))(d:Nat):
  jd (d+1) h (.hs q 0 l.length sz true)= .sl (l.map f):=by
 have hlen:=jh (f:=f) hs l;simp only[jd,cl,hq];have h1:(decide (0+l.length*sz<=(rowOf f l).length)&&decide (0<sz)&&(true||(Nat.beq sz 1&&(rowOf f l).all aG)))=true:=by
  simp[hlen,hz]
 rw[h1,aaF];congr 1;apply aco
 ·simp
 ·intro i h2 h3;have hi:i<l.length:=by simpa using h2
  simp only[List.getElem_map,List.getElem_range,aa7,aaF];rw[kO hs l i hi,<- hag];cases d with
  |zero=>exact hcl _ _
  |succ d=>exact hcl _ _
theorem Hc{T:TT}{e:Nat}{ei:TI}(ht:T t=some ti)(hk:ti.kind= .slice e)(he:T e=some ei)(h4:ei.size=sz)(hag:ei.agg=true)(hb:0<ei.bytes)(hz:0<sz)(hok:∀x,cq sz (f x)=true)(call:FuncId->List AV->M AV)(l:List α)(hc:l.length*ei.bytes<=140737488355328)(h:Hp):
  dZ T t call [.sl (l.map f)] h=if l=[]then .ok (.sl []) h else .ok (.hs h.length 0 l.length sz true) (h++[rowOf f l]):=by
 have h1:dR sz (l.map f)=true:=ew hok l;cases l with
 |nil=>simp_all[dZ,appH,jp,ll]
 |cons v l=>
  have hne:((v:: l).map f).isEmpty=false:=rfl;simp_all[dZ,appH,jp,ll,rowOf]
end
def KS{T:TT}{off:Nat}(ht:T t=some ti)(hag:ti.agg=true)(hq:h[q]? = some cs)(hle:off+ti.size<=cs.length):bC T t (.hp q off) h= .ok (.agg ((cs.drop off).take ti.size)) h:=by
 simp_all[bC]
def Gq{T:TT}{off:Nat}{v:AV}(ht:T t=some ti)(hq:h[q]? = some cs)(hok:cq ti.size v=true)(hle:off+ti.size<=cs.length)(h0:0<ti.size)(hsame:(cs.drop off).take (ab v).length=ab v):
  cp T t (.hp q off) v h= .ok (.tup []) h:=by
 simp only[cp,ht,hq,hok,acU hle,acU h0,acC,aaF]
 grind [Ac,List.set_getElem_self]
variable {l:Nat}
def rO{T:TT}(ht:T t=some ti)(ha:ti.agg=false){k:Nat}{v:AV}(h0:h[l]? = some cs)(h1:cs[k]? = some v):bC T t (.hp l k) h= .ok v h:=by
 simp[bC,ht,h0,ha,h1]
def Nr{T:TT}(ht:T t=some ti)(ha:ti.agg=true){k:Nat}(h0:h[l]? = some cs)(hle:k+ti.size<=cs.length):bC T t (.hp l k) h= .ok (.agg ((cs.drop k).take ti.size)) h:=by
 simp[bC,ht,h0,ha,hle]
def Dp{T:TT}(ht:T t=some ti){k:Nat}{v:AV}(h0:h[l]? = some cs)(hv:cq ti.size v=true)(hle:k+ti.size<=cs.length)(hp:0<ti.size):
  cp T t (.hp l k) v h= .ok (.tup []) (h.set l (setCells cs k (ab v))):=by
 simp[cp,ht,h0,hv,hle,hp]
def Q5{T:TT}{e:Nat}{ei:TI}(ht:T t=some ti)(hk:ti.kind= .slice e)(he:T e=some ei){x:AV}(hx:cq ei.size x=true)(hb:0<ei.bytes)(hs:0<ei.size)(hc:ei.bytes<=140737488355328)(h:Hp):
  appH T t false .hn (.sl [x]) h= .ok (.hs h.length 0 1 ei.size ei.agg) (h++[ab x]):=by
 simp_all[dR,appH,jp,ll]
def L5{T:TT}{e:Nat}{ei:TI}(ht:T t=some ti)(hk:ti.kind= .slice e)(he:T e=some ei){x:AV}(hx:cq ei.size x=true)(hb:0<ei.bytes)(hs:0<ei.size){n:Nat}(h0:h[q]? = some cs)(hok:cs.all aG=true)(hl:cs.length=n*ei.size)(hn:0<n)(hc:(n+1)*ei.bytes<=140737488355328):appH T t false (.hs q 0 n ei.size ei.agg) (.sl [x]) h= .ok (.hs h.length 0 (n+1) ei.size ei.agg) ((h.set q [])++[cs++ab x]):=by
 have h1:dR ei.size [x]=true:=by simp[dR,hx]
 have h2:List.all cs aG=true:=hok;have h3:0<n*ei.size:=Nat.mul_pos hn hs;have h4:cs.take (n*ei.size)=cs:=by rw[<- hl];exact acp
 simp only[appH,ht,hk,he,jp,h1,hb,hs,ll,h0,h2,hl,abj,acC,aaF,abU,abS,List.isEmpty_cons,aaM,abZ,List.flatMap_nil,abr,h3,h4,aaI]
 grind
theorem EW{V:Type}(k r:aA)(v:V):∀l:List (aA×V),jl (kM l k v) r=if k=r then some v else jl l r
 |[]=>by simp[kM,jl]
 | x:: l=>by
  simp only[kM];by_cases h:x.1=k
  ·subst h;simp only[aaV,jl];split<;>rfl
  ·simp only[h,aaR,jl,EW k r v l];by_cases h1:x.1=r
   ·have:¬k=r:=fun e=>h (h1.trans e.symm);simp[h1,this]
   ·simp[h1]
variable {V:Type}{r:aA}
def EU{l:List (aA×V)}{v:V}(h:jl l r=some v):(r,v)∈l:=by
 induction l with
 |nil=>cases h
 |cons x l ih=>
  simp only[jl]at h;split at h
  ·rename_i e;cases h;subst e;exact abm
  ·exact abb _ (ih h)
theorem qt{V:Type}{l:List (aA×V)}{r:aA}:jl l r=none↔r ∉ l.map (·.1):=by
 induction l with
 |nil=>simp[jl]
 | cons x l ih=>
  simp only[jl,aa0,aaT,not_or];by_cases h:x.1=r
  ·simp[h]
  ·have h':¬r=x.1:=fun e=>h e.symm;simp[h,h',ih]
theorem rE{l:List (aA×V)}(hn:(l.map (·.1)).Nodup){v:V}(h:(r,v)∈l):jl l r=some v:=by
 induction l with
 |nil=>cases h
 | cons x l ih=>
  simp only[aa0,ab4]at hn;simp only[jl];rcases aaT.1 h with rfl|h
  ·simp
  ·have:¬x.1=r:=fun e=>hn.1 (by rw[e];exact List.mem_map_of_mem (f:=(·.1)) h);simp[this,ih hn.2 h]
theorem uC{V:Type}(k:aA)(v:V):∀l:List (aA×V),(kM l k v).map (·.1)=if k∈l.map (·.1)then l.map (·.1)else l.map (·.1)++[k]
 |[]=>rfl
 | x:: l=>by
  simp only[kM];by_cases h:x.1=k
  ·subst h;simp
  ·have h':¬k=x.1:=fun e=>h e.symm;simp only[h,aaR,aa0,uC k v l,aaT,h',false_or];split<;>rfl
def yR(k:aA)(v:V)(l:List (aA×V))(h:(l.map (·.1)).Nodup):((kM l k v).map (·.1)).Nodup:=by
 rw[uC];split
 ·exact h
 ·rename_i hk;exact adb.2 ⟨h,AI,fun a ha b hb e=>by simp at hb;subst hb;subst e;exact hk ha⟩
def FX(k r:aA)(v:V)(l:List (aA×V)):r∈(kM l k v).map (·.1)↔r=k\/r∈l.map (·.1):=by
 rw[uC];split
 ·rename_i h;constructor
  ·exact .inr
  ·rintro (rfl|h2);exact h;exact h2
 ·rw[aba,abF];exact⟨fun h=>h.symm,fun h=>h.symm⟩
def AP(l:List (az×List (az×V)))(r:aA):Option V:=match l.find? (fun m=>m.1== r.1)with
 |some m=>(m.2.find? fun f=>f.1== r.2).map (·.2)
 |none=>none
theorem A4{V:Type}(m:az)(r:aA):∀(l:List (az×V))(out:List (aA×V)),jl (rJ m l out) r=if r.1=m then(match l.find? (fun f=>f.1== r.2)with|some f=>some f.2|none=>jl out r)else jl out r
 |[],out=>by simp[rJ]
 | f:: l,out=>by
  have ih:=A4 m r l out;show jl (kM (rJ m l out) (m,f.1) f.2) r=_;rw[EW,ih];by_cases h1:r.1=m
  ·by_cases h2:f.1=r.2
   ·have e:((m,f.1):aA)=r:=Prod.ext h1.symm h2;simp[h1,h2,e,abG];rw[<- h1,<- h2]at *;simp[e]
   ·have e:¬((m,f.1):aA)=r:=fun e=>h2 (by rw[<- e]);have e2:(f.1== r.2)=false:=aaN.2 h2;simp[h1,e,abG,e2]
  ·have e:¬((m,f.1):aA)=r:=fun e=>h1 (by rw[<- e]);simp[h1,e]
theorem A7{V:Type}(m:az):∀(l:List (az×V))(out:List (aA×V))(r:aA),r∈(rJ m l out).map (·.1)↔(r.1=m/\r.2∈l.map (·.1))\/r∈out.map (·.1)
 |[],out,r=>by simp[rJ]
 | f:: l,out,r=>by
  show r∈(kM (rJ m l out) (m,f.1) f.2).map (·.1)↔_;rw[FX,A7 m l out r];constructor
  ·rintro (rfl|⟨h1,h2⟩|h)
   ·exact .inl ⟨rfl,AI⟩
   ·exact .inl ⟨h1,by simp[h2]⟩
   ·exact .inr h
  ·rintro (⟨h1,h2⟩|h)
   ·rcases aaT.1 h2 with h2|h2
    ·exact .inl (Prod.ext h1 h2)
    ·exact .inr (.inl ⟨h1,h2⟩)
   ·exact .inr (.inr h)
theorem ul{V:Type}(r:aA):∀(l:List (az×List (az×V)))(seen:List az)(out:List (aA×V)),(∀k∈out.map (·.1),k.1∈seen)->jl (nz l seen out) r=if r.1∈seen then jl out r else AP l r
 | [],seen,out,ho=>by
  simp only[nz,AP,List.find?_nil];split
  ·rfl
  ·rename_i h;exact qt.2 fun hk=>h (ho r hk)
 | m:: l,seen,out,ho=>by
  simp only[nz];by_cases hm:m.1∈seen
  ·rw[aaH hm,ul r l seen out ho];split
   ·rfl
   ·rename_i h;have:(m.1== r.1)=false:=aaN.2 fun e=>h (e▸hm);simp[AP,abG,this]
  ·rw[aaC hm,ul r l (seen++[m.1]) (rJ m.1 m.2 out) (fun k hk=>by
    rcases (A7 m.1 m.2 out k).1 hk with⟨h,_⟩|h
    ·simp[h]
    ·simp[ho k h]),A4]
   by_cases hr:r.1=m.1
   ·have h1:r.1∈seen++[m.1]:=by simp[hr]
    have h2:¬r.1∈seen:=by rw[hr];exact hm
    have h3:jl out r=none:=qt.2 fun hk=>h2 (ho r hk);have h4:(m.1== r.1)=true:=aa9.2 hr.symm;rw[aaH h1,aaC h2,aaH hr,h3];simp only[AP,abG,h4];cases m.2.find? (fun f=>f.1== r.2)<;>rfl
   ·have h4:(m.1== r.1)=false:=aaN.2 fun e=>hr e.symm;have h1:r.1∈seen++[m.1]↔r.1∈seen:=by simp[hr]
    simp only[h1,hr,aaR,AP,abG,h4]
theorem rK{V:Type}:∀(l:List (az×List (az×V)))(seen:List az)(out:List (aA×V)),(out.map (·.1)).Nodup->((nz l seen out).map (·.1)).Nodup
 |[],_,_,h=>h
 | m:: l,seen,out,h=>by
  simp only[nz];split
  ·exact rK l seen out h
  ·refine rK l _ _ ?_;have:∀(fs:List (az×V)),((rJ m.1 fs out).map (·.1)).Nodup:=by
    intro fs
    induction fs with
    |nil=>exact h
    |cons f fs ih=>exact yR _ _ _ ih
   exact this m.2
theorem FV{V W:Type}(g:V->W)(k:aA)(v:V):∀l:List (aA×V),kM (l.map fun x=>(x.1,g x.2)) k (g v)=(kM l k v).map fun x=>(x.1,g x.2)
 |[]=>rfl
 |x:: l=>by
  simp only[aa0,kM];split
  ·rfl
  ·rw[FV g k v l];rfl
theorem E1{V W:Type}(g:V->W)(m:az)(out:List (aA×V)):∀l:List (az×V),rJ m (l.map fun x=>(x.1,g x.2)) (out.map fun x=>(x.1,g x.2))=(rJ m l out).map fun x=>(x.1,g x.2)
 |[]=>rfl
 |f:: l=>by
  show kM (rJ m (l.map fun x=>(x.1,g x.2)) (out.map fun x=>(x.1,g x.2))) (m,f.1) (g f.2)=_;rw[E1 g m out l,FV];rfl
theorem xY{V W:Type}(g:V->W):∀(l:List (az×List (az×V)))(seen:List az)(out:List (aA×V)),nz (l.map fun m=>(m.1,m.2.map fun x=>(x.1,g x.2))) seen (out.map fun x=>(x.1,g x.2))=(nz l seen out).map fun x=>(x.1,g x.2)
 |[],_,_=>rfl
 |m:: l,seen,out=>by
  simp only[aa0,nz];split
  ·exact xY g l seen out
  ·rw[E1,xY g l]
def uz(m:Mod):az×List (az×Fun):=(m.name,m.funcs.map fun f=>(f.name,f))
def eb(p:List Mod):List (aA×Fun):=nz (p.map uz) [] []
def findR(p:List Mod)(r:aA):Option Fun:=match p.find? (fun m=>m.name== r.1)with
 |some m=>m.funcs.find? fun f=>f.name== r.2
 |none=>none
theorem wq(p:List Mod)(r:aA):jl (eb p) r=findR p r:=by
 unfold eb;rw[ul r _ [] [] AI,aaC AI];unfold AP findR;rw[List.find?_map];have:((fun m:az×List (az×Fun)=>m.1== r.1) ∘ uz)=fun m:Mod=>m.name== r.1:=rfl;rw[this];cases p.find? (fun m=>m.name== r.1)with
 |none=>rfl
 |some m=>
  simp only[abq,uz];rw[List.find?_map];have:((fun f:az×Fun=>f.1== r.2) ∘ fun f:Fun=>(f.name,f))=fun f:Fun=>f.name== r.2:=rfl;rw[this];cases m.funcs.find? (fun f=>f.name== r.2)<;>rfl
theorem A8(p:List Mod):((eb p).map (·.1)).Nodup:=rK _ _ _ AI
mutual
def gm:Exp->List Exp
 |.mk o n s m ns es=>.mk o n s m ns es:: wx es
def wx:List Exp->List Exp
 |[]=>[]
 |e:: es=>gm e++wx es
end
theorem tg:∀l:List Exp,wx l=l.flatMap gm
 |[]=>rfl
 |e:: l=>by simp[wx,tg l]
theorem qz(e:Exp):gm e=e:: e.args.flatMap gm:=by
 cases e with
 |mk o n s m ns es=>simp only[gm,tg];rfl
def OJ:Exp:=.mk 0 0 [] [] [] []
def BX:Fun:=⟨[],false,[],.mk 0 [],0,OJ⟩
def uJ(f:aA)(e:Exp):aA:=(if e.m=[]then f.1 else e.m,e.s)
def sE(p:List Mod)(f:aA)(e:Exp):Bool:=e.op== 15&&(match findR p (uJ f e)with|some g=>e.m== []||g.pub|none=>false)
def jm(p:List Mod)(f:aA):Exp:=((findR p f).getD BX).body
def pQ(p:List Mod)(f:aA)(o:List (aA×Bool))(e:Exp):List (aA×Bool):=if sE p f e then kM o (uJ f e) true else o
def found(p:List Mod)(f:aA):List (aA×Bool):=(gm (jm p f)).foldl (pQ p f) []
def fS(p:List Mod)(f:aA):List aA:=fo ((found p f).map (·.1))
theorem AU(p:List Mod)(f r:aA):∀(l:List Exp)(o:List (aA×Bool)),r∈(l.foldl (pQ p f) o).map (·.1)↔(∃e∈l,sE p f e=true/\r=uJ f e)\/r∈o.map (·.1)
 |[],o=>AI
 | e :: l,o=>by
  simp only[acd];rw[AU p f r l,pQ];by_cases h:sE p f e=true
  ·rw[aaH h,FX];constructor
   ·rintro (⟨e',h1,h2⟩|rfl|h1)
    ·exact .inl ⟨e',by simp[h1],h2⟩
    ·exact .inl ⟨e,AI,h,rfl⟩
    ·exact .inr h1
   ·rintro (⟨e',h1,h2,h3⟩|h1)
    ·rcases aaT.1 h1 with rfl|h1
     ·exact .inr (.inl h3)
     ·exact .inl ⟨e',h1,h2,h3⟩
    ·exact .inr (.inr h1)
  ·rw[aaC h];constructor
   ·rintro (⟨e',h1,h2⟩|h1)
    ·exact .inl ⟨e',by simp[h1],h2⟩
    ·exact .inr h1
   ·rintro (⟨e',h1,h2,h3⟩|h1)
    ·rcases aaT.1 h1 with rfl|h1
     ·exact absurd h2 h
     ·exact .inl ⟨e',h1,h2,h3⟩
    ·exact .inr h1
theorem vt(p:List Mod)(f:aA):∀(l:List Exp)(o:List (aA×Bool)),(o.map (·.1)).Nodup->((l.foldl (pQ p f) o).map (·.1)).Nodup
 |[],o,h=>h
 |e:: l,o,h=>by
  simp only[acd];refine vt p f l _ ?_;unfold pQ;split
  ·exact yR _ _ _ h
  ·exact h
variable {p:List Mod}
def qx{f:aA}:r∈fS p f↔∃e∈gm (jm p f),sE p f e=true/\r=uJ f e:=by
 unfold fS;rw[(fE _).mem_iff];unfold found;rw[AU];simp
def pG(p:List Mod)(f:aA):(fS p f).Nodup:=(fE _).nodup_iff.2 (vt p f _ [] AI)
def Eh{f:aA}(h:r∈fS p f):(findR p r).isSome=true:=by
 obtain⟨e,_,h2,rfl⟩:=qx.1 h;unfold sE at h2;cases hf:findR p (uJ f e)with
 |none=>rw[hf]at h2;simp at h2
 |some g=>rfl
def FH(C:aA->List aA)(D:List (aA×List aA))(x:aA)(c:List aA):List (aA×List aA):=((C x).filter fun r=>!(D.map (·.1)).contains r).map fun r=>(r,c++[r])
def sB(C:aA->List aA):Nat->Nat->List (aA×List aA)->List (aA×List aA)
 |0,_,D=>D
 |n+1,k,D=>match D[k]? with
  |none=>D
  |some (x,c)=>sB C n (k+1) (D++FH C D x c)
def dz(p:List Mod)(f:aA):List (aA×List aA):=if(findR p f).isSome then sB (fS p) ((eb p).length+1) 0 [(f,[f])]else[]
theorem kA{α:Type}[DecidableEq α]:∀ {l m:List α},l.Nodup->(∀x∈l,x∈m)->l.length<=m.length
 |[],m,_,_=>aa1 _
 | x:: l,m,hn,hs=>by
  have hx:=hs x abm
  have:=kA (l:=l) (m:=m.erase x) (ab4.1 hn).2 (fun y hy=>by
   have hne:y≠x:=fun e=>(ab4.1 hn).1 (e▸hy);exact (List.mem_erase_of_ne hne).2 (hs y (abb _ hy)))
  rw[List.length_erase_of_mem hx]at this
  have:=List.length_pos_of_mem hx
  simp only[aaX];omega
def zk(c:List aA)(D:List (aA×List aA))(r:aA):List (aA×List aA):=if r∈D.map (·.1)then D else D++[(r,c++[r])]
theorem Gp(c:List aA):∀(l:List aA)(D:List (aA×List aA)),l.Nodup->l.foldl (zk c) D=D++((l.filter fun r=>!(D.map (·.1)).contains r).map fun r=>(r,c++[r]))
 |[],D,_=>AI
 | r:: l,D,hn=>by
  obtain⟨h1,h2⟩:=ab4.1 hn;simp only[acd];rw[Gp c l _ h2];unfold zk;by_cases hr:r∈D.map (·.1)
  ·have:(!(D.map (·.1)).contains r)=false:=by simpa using hr
   rw[aaH hr,acV (p:=fun r=>!(D.map (·.1)).contains r) (by rw[this];simp)]
  ·have h3:(!(D.map (·.1)).contains r)=true:=by simpa using hr
   rw[aaC hr,acW (p:=fun r=>!(D.map (·.1)).contains r) h3];simp only[aa0,ab0,aa2,aaU];congr 2;congr 1;apply acX;intro y hy;have hne:y≠r:=fun e=>h1 (e▸hy);simp[hne]
def Qh(C:aA->List aA)(D:List (aA×List aA))(x:aA)(c:List aA)(h:(C x).Nodup):(C x).foldl (zk c) D=D++FH C D x c:=Gp c _ _ h
variable {x:aA}
def tf{C:aA->List aA}{D:List (aA×List aA)}{c:List aA}{e:aA×List aA}:e∈FH C D x c↔e.1∈C x/\e.1 ∉ D.map (·.1)/\e.2=c++[e.1]:=by
 unfold FH;rw[abe];constructor
 ·rintro⟨r,hr,rfl⟩;rw[ace]at hr;exact⟨hr.1,by simpa using hr.2,rfl⟩
 ·rintro⟨h1,h2,h3⟩;exact⟨e.1,ace.2 ⟨h1,by simpa using h2⟩,by rw[<- h3]⟩
structure DInv (p:List Mod) (f:aA) (k:Nat) (D:List (aA×List aA)):Prop where
 nodup:(D.map (·.1)).Nodup
 inn:∀e∈D,(findR p e.1).isSome=true
 chain:∀e∈D,e=(f,[f])\/∃y c,(y,c)∈D/\e.1∈fS p y/\e.2=c++[e.1]
 closed:∀i e,i<k->D[i]? = some e->∀r∈fS p e.1,r∈D.map (·.1)
 start:(f,[f])∈D
def sU(p:List Mod)(r:aA):r∈(eb p).map (·.1)↔(findR p r).isSome=true:=by
 have:=@qt Fun (eb p) r
 rw[wq]at this;cases h:findR p r with
 |none=>rw[h]at this;simpa using this.1 rfl
 |some g=>rw[h]at this;simpa using this
def DInv.len{f:aA}{k:Nat}{D:List (aA×List aA)}(I:DInv p f k D):D.length<=(eb p).length:=by
 have:=kA (l:=D.map (·.1)) (m:=(eb p).map (·.1)) I.nodup (fun x hx=>by
  obtain⟨e,he,rfl⟩:=abe.1 hx;exact (sU p _).2 (I.inn e he))
 simpa using this
def DInv.zero{f:aA}(h:(findR p f).isSome=true):DInv p f 0 [(f,[f])] where
 nodup:=AI
 inn:=fun e he=>by rw[abF.1 he];exact h
 chain:=fun e he=>.inl (abF.1 he)
 closed:=fun i e hi=>WD
 start:=abF.2 rfl
def DInv.step{f:aA}{k:Nat}{D:List (aA×List aA)}(I:DInv p f k D){c:List aA}(hk:D[k]? = some (x,c)):DInv p f (k+1) (D++FH (fS p) D x c) where
 nodup:=by
  rw[ack,adb];refine⟨I.nodup,?_,fun a ha b hb e=>?_⟩
  ·have:(FH (fS p) D x c).map (·.1)=(fS p x).filter fun r=>!(D.map (·.1)).contains r:=by
    unfold FH;rw[acf];exact List.map_id _
   rw[this];exact (pG p x).filter _
  ·obtain⟨y,hy,rfl⟩:=abe.1 hb;exact (tf.1 hy).2.1 (e▸ha)
 inn:=fun e he=>by
  rcases aba.1 he with he|he
  ·exact I.inn e he
  ·exact Eh (tf.1 he).1
 chain:=fun e he=>by
  rcases aba.1 he with he|he
  ·rcases I.chain e he with h|⟨y,c',h1,h2⟩
   ·exact .inl h
   ·exact .inr ⟨y,c',ab9 _ h1,h2⟩
  ·obtain⟨h1,h2,h3⟩:=tf.1 he;exact .inr ⟨x,c,ab9 _ (abg hk),h1,h3⟩
 closed:=fun i e hi he r hr=>by
  rw[ack,aba];have hkl:k<D.length:=(aaJ.1 hk).1;rw[aa6 WD]at he;by_cases h:i<k
  ·exact .inl (I.closed i e h he r hr)
  ·obtain rfl:i=k:=WD
   rw[hk]at he;cases he;by_cases hm:r∈D.map (·.1)
   ·exact .inl hm
   ·exact .inr (abe.2 ⟨(r,c++[r]),tf.2 ⟨hr,hm,rfl⟩,rfl⟩)
 start:=ab9 _ I.start
theorem IM{p:List Mod}{f:aA}:∀(n k:Nat)(D:List (aA×List aA)),DInv p f k D->(eb p).length<=k+n->DInv p f (sB (fS p) n k D).length (sB (fS p) n k D)
 |0,k,D,I,h=>by
  have:=I.len
  exact⟨I.nodup,I.inn,I.chain,fun i e hi he=>I.closed i e (by simp only[sB]at hi;omega) he,I.start⟩
 | n+1,k,D,I,h=>by
  simp only[sB];cases hk:D[k]? with
  |none=>
   have:=acQ.1 hk
   exact⟨I.nodup,I.inn,I.chain,fun i e hi he=>I.closed i e (by simp only at hi;omega) he,I.start⟩
  |some e=>
   obtain⟨x,c⟩:=e;exact IM n (k+1) _ (I.step hk) WD
def qE{f:aA}(h:(findR p f).isSome=true):DInv p f (dz p f).length (dz p f):=by
 unfold dz;rw[aaH h];exact IM _ 0 _ (DInv.zero h) WD
def Dh{f:aA}(hx:x∈(dz p f).map (·.1)):∀r∈fS p x,r∈(dz p f).map (·.1):=by
 by_cases h:(findR p f).isSome=true
 ·obtain⟨e,he,rfl⟩:=abe.1 hx;obtain⟨i,hi,rfl⟩:=ab3 he;exact (qE h).closed i _ hi (aaE hi)
 ·unfold dz at hx;rw[aaC h]at hx;cases hx
def H6(e:aA×List aA):aA×aA:=(e.1,e.2.dropLast.getLastD e.1)
theorem Le(c:List aA)(r y:aA)(hc:c.getLast? = some y):H6 (r,c++[r])=(r,y):=by
 simp[H6,List.getLastD_eq_getLast?,hc]
def DInv.last{f:aA}{k:Nat}{D:List (aA×List aA)}(I:DInv p f k D){e:aA×List aA}(he:e∈D):e.2.getLast? = some e.1:=by
 rcases I.chain e he with rfl|⟨y,c,_,_,h⟩
 ·rfl
 ·rw[h];simp
def qf(D:List (aA×List aA)):List AV:=[.tup ((D.map H6).map (gz bE))]
def FT(qs:List Nat):(qs.map fun(i:Nat)=>qi i).map FF=qs:=by
 induction qs with
 |nil=>rfl
 |cons q qs ih=>simp only[aa0,ih];rfl
def Qm{l m:Nat}{n:Int}{c:AV}{kf kt:M AV}{h:Hp}{es:List AV}(hl:h[l]? = some [.tup [],.mp m,.int .i64 n,nF [],c])(hm:h[m]? = some [.tup es])(hn:(es.length:Int)=n):nD (.it l) kf kt h=kf (h.set l []):=by
 simp only[nD,hl,nF,hm,aaH hn,FT]
def Pt{ps:List Nat}{k:Nat->M AV}{r:R AV}(hne:ps≠[])(hall:∀q∈ps,k q h=r):vZ ps k h=r:=by
 cases ps with
 |nil=>exact absurd rfl hne
 |cons p ps=>
  simp only[vZ];rw[aaH (fun q hq=>(hall q (abb _ hq)).trans (hall p abm).symm)];exact hall p abm
def NF{l m:Nat}{n:Int}{qs:List Nat}{c:AV}{kf kt:M AV}{h:Hp}{es:List AV}{r:R AV}(hl:h[l]? = some [.tup [],.mp m,.int .i64 n,nF qs,c])(hm:h[m]? = some [.tup es])(hn:(es.length:Int)=n)(hne:qs≠[])(hall:∀q∈qs,kt (h.set l [.tup [],.mp m,.int .i64 n,nF (qs.filter fun r=>!(Nat.beq r q)),.int .i64 (q:Nat)])=r):nD (.it l) kf kt h=r:=by
 cases qs with
 |nil=>exact absurd rfl hne
 | cons p ps=>
  have h1:nD (.it l) kf kt h=vZ (p:: ps) (fun q h=>kt (h.set l [.tup [],.mp m,.int .i64 n,nF ((p:: ps).filter fun r=>!(Nat.beq r q)),.int .i64 (q:Nat)])) h:=by
   simp only[nD,hl,nF,hm,aaH hn,FT]
  rw[h1];exact Pt (k:=fun q h=>kt (h.set l [.tup [],.mp m,.int .i64 n,nF ((p:: ps).filter fun r=>!(Nat.beq r q)),.int .i64 (q:Nat)])) hne hall
def MF{l m q:Nat}{n:Int}{x k v:AV}{h:Hp}{es:List AV}(hl:h[l]? = some [.tup [],.mp m,.int .i64 n,x,.int .i64 (q:Nat)])(hm:h[m]? = some [.tup es])(hn:(es.length:Int)=n)(hq:es[q]? = some (.tup [k,v])):kV (.it l) h= .ok (.tup [k,v]) h:=by
 simp only[kV,hl,hm,aaH hn,aaP,hq]
def XX{a b:Nat}(h:¬a=b):Nat.beq a b=false:=by
 cases hb:Nat.beq a b with
 |false=>rfl
 |true=>exact absurd (Nat.eq_of_beq_eq_true hb) h
theorem vJ{q:Nat}:∀ {qs:List Nat},qs.Nodup->q∈qs->qs.Perm (q:: qs.filter fun r=>!(Nat.beq r q))
 |[],_,h=>by cases h
 | x:: qs,hn,h=>by
  obtain⟨h1,h2⟩:=ab4.1 hn;by_cases hx:x=q
  ·subst hx;have e:qs.filter (fun r=>!(Nat.beq r x))=qs:=ac8.2 fun y hy=>by
    have:¬y=x:=fun e=>h1 (e▸hy);simp[XX this]
   rw[acV AI,e]
  ·have hq:q∈qs:=by
    rcases aaT.1 h with h|h
    ·exact absurd h.symm hx
    ·exact h
   rw[acW (by simp[XX hx])];exact ((vJ h2 hq).cons x).trans (List.Perm.swap _ _ _)
def tj{qs:List Nat}(h:qs.Nodup):(qs.filter fun r=>!(Nat.beq r q)).Nodup:=h.filter _
def Pv(e:Exp):BitVec 64:=if e.op=16 then BitVec.ofInt 64 e.n &&& 15#64 else 0#64
def orS(s:BitVec 64)(e:Exp):BitVec 64:=s ||| Pv e
def To(p:List Mod)(r:aA):BitVec 64:=(gm (jm p r)).foldl orS 0#64
def orQ{α:Type}(v:α->BitVec 64)(s:BitVec 64)(qs:List α):BitVec 64:=qs.foldl (fun s q=>s ||| v q) s
def dM:List aA->List AV
 |[]=>[]
 |r:: l=>.str r.1:: .str r.2:: dM l
theorem jZ:∀l:List aA,(dM l).length=l.length*2
 |[]=>rfl
 |r:: l=>by simp only[dM,aaX,jZ l];omega
theorem qk:∀l:List aA,(dM l).all aG=true
 |[]=>rfl
 |r:: l=>by simp only[dM,abf,qk l,abN];rfl
theorem xb:∀a b:List aA,dM (a++b)=dM a++dM b
 |[],b=>rfl
 |r:: a,b=>by simp only[aa2,dM,xb a b]
theorem xd:∀(l:List aA)(i:Nat)(h:i<l.length),((dM l).drop (i*2)).take 2=[.str l[i].1,.str l[i].2]
 |r:: l,0,_=>rfl
 |r:: l,i+1,h=>by
  rw[show (i+1)*2=i*2+1+1 by omega];simp only[dM,aa5,List.getElem_cons_succ];exact xd l i (by simpa using h)
theorem MY{P:List aA}(hl:h[l]? = some (dM P))(d:Nat):jd (d+1) h (.hs l 0 P.length 2 true)=bg P:=by
 have h1:(decide (0+P.length*2<=(dM P).length)&&decide (0<2)&&(true||(Nat.beq 2 1&&(dM P).all aG)))=true:=by
  rw[jZ];simp
 simp only[jd,cl,hl,h1,aaF];unfold bg;congr 1;apply aco AI;intro i h2 h3;simp at h2;simp only[List.getElem_map,List.getElem_range,aa7];rw[xd P i h2];cases d<;>rfl
def DInv.uniq{f:aA}{k:Nat}{D:List (aA×List aA)}(I:DInv p f k D){c d:List aA}(h1:(x,c)∈D)(h2:(x,d)∈D):c=d:=by
 have e1:=rE I.nodup h1;have e2:=rE I.nodup h2;rw[e1]at e2;exact abz e2
def lD(p:List Mod)(f:aA):List aA:=fo ((dz p f).map (·.1))
def X9(p:List Mod)(f t:aA):Option (List aA):=jl (dz p f) t
def lH{f:aA}:x∈lD p f↔x∈(dz p f).map (·.1):=(fE _).mem_iff
def wS{f:aA}(h:x∈lD p f):(findR p f).isSome=true:=by
 rw[lH]at h;by_cases hf:(findR p f).isSome=true
 ·exact hf
 ·unfold dz at h;rw[aaC hf]at h;cases h
def JZ{f:aA}(h:x∈lD p f):(findR p x).isSome=true:=by
 have hf:=wS h;rw[lH]at h;obtain⟨e,he,rfl⟩:=abe.1 h;exact (qE hf).inn e he
def DZ{f:aA}(h:(findR p f).isSome=true):f∈lD p f:=lH.2 (abe.2 ⟨_,(qE h).start,rfl⟩)
def wR{f:aA}(h:x∈lD p f)(hr:r∈fS p x):r∈lD p f:=lH.2 (Dh (lH.1 h) r hr)
def J0{A:aA->Prop}(hx:A x)(hA:∀y r,A y->r∈fS p y->A r):∀y∈lD p x,A y:=by
 intro y hy;have hf:=wS hy;have I:=qE hf;have key:∀(n:Nat)(e:aA×List aA),e∈dz p x->e.2.length=n->A e.1:=by
  intro n
  induction n with
  |zero=>
   intro e he hn
   have:=I.last he
   rw[List.length_eq_zero_iff.1 hn]at this;cases this
  |succ n ih=>
   intro e he hn;rcases I.chain e he with rfl|⟨z,c,h1,h2,h3⟩
   ·exact hx
   ·exact hA z _ (ih (z,c) h1 (by rw[h3]at hn;simpa using hn)) h2
 obtain⟨e,he,rfl⟩:=abe.1 (lH.1 hy);exact key _ e he rfl
def sy(p:List Mod):List aA:=p.flatMap fun m=>m.funcs.map fun f=>(m.name,f.name)
def Kv(h:(findR p r).isSome=true):r∈sy p:=by
 unfold findR at h;split at h
 ·rename_i m hm;cases hf:m.funcs.find? fun f=>f.name== r.2 with
  |none=>rw[hf]at h;cases h
  |some g=>
   have h1:=acE hm;have h2:=acE hf;refine acZ.2 ⟨m,abH hm,abe.2 ⟨g,abH hf,?_⟩⟩;simp only[aa9]at h1 h2;rw[h1,h2]
 ·cases h
def LW(p:List Mod){n:Nat}(h:∀m∈p,m.funcs.length<=n):(sy p).length<=p.length*n:=by
 induction p with
 |nil=>simp[sy]
 |cons m p ih=>
  have h1:=ih (fun m hm=>h m (abb _ hm));have h2:=h m abm;have:(sy (m:: p)).length=m.funcs.length+(sy p).length:=by simp[sy]
  rw[this,aaX,Nat.add_mul];omega
def PP(p:List Mod):(eb p).length<=(sy p).length:=by
 have:=kA (l:=(eb p).map (·.1)) (m:=sy p) (A8 p) (fun x hx=>Kv ((sU p x).1 hx))
 simpa using this
end Go.Av.Ap
namespace Go.Av.Ap
def J4:List az->Bool
 |[]=>true
 |[_]=>true
 |x:: y:: l=>aK x y&&J4 (y:: l)
def cb:Nat->Val->Bool
 |0,_=>false
 |d+1,v=>if(v.kind== 0||v.kind== 1)=true then v.names.length== 0&&v.values.length== 0&&(v.kind== 0||v.n== 0||v.n== 1)
  else v.kind== 2&&v.n== 0&&v.names.length== v.values.length&&decide (v.names.length<=8)&&J4 v.names&&v.values.all (cb d)
def iz(b:Bool):Val:=.mk 1 (if b then 1 else 0) [] []
def pX(n:Int):Val:=.mk 0 n [] []
def modAt(p:List Mod)(s:az):Int:=aS (fun m=>m.name== s) p 0
def jt(l:List Fun)(s:az):Int:=aS (fun f=>f.name== s) l 0
def mh(l:List bQ)(s:az):Int:=aS (fun f=>f.1== s) l 0
structure Ms where
 fuel:Int
 frames:Int
 world:List Int
 deeds:List Deed
 calls:List Call
 state:List (List Val)
inductive Rs (α:Type) where
 |ok (a:α) (m:Ms)
 |er (e:Int) (m:Ms)
def X(α:Type):=Ms->Rs α
def X.ok{α:Type}(a:α):X α:=fun m=>.ok a m
def X.er{α:Type}(e:Int):X α:=fun m=>.er e m
def X.bind{α β:Type}(x:X α)(f:α->X β):X β:=fun m=>match x m with
 |.ok a m'=>f a m'
 |.er e m'=>.er e m'
def X.upd{α:Type}(f:Ms->Ms)(x:X α):X α:=fun m=>x (f m)
def X.get{α:Type}(f:Ms->X α):X α:=fun m=>f m m
def aE(op:Int):Int:=
 if op=0\/op=1\/op=2\/op=17 then 0
 else if op=10\/op=14\/op=16\/op=18 then 1
 else if op=3\/op=4\/op=5\/op=6\/op=7\/op=8\/op=9\/op=12 then 2
 else if op=11 then 3
 else if op=13\/op=15 then -1
 else -2
def iE:List az->List Val->az->Option Val
 |n:: ns,v:: vs,s=>match iE ns vs s with
  |some x=>some x
  |none=>if n=s then some v else none
 |_,_,_=>none
def iv:List az->List Val->az->Option Val
 |n:: ns,v:: vs,s=>if n=s then some v else iv ns vs s
 |_,_,_=>none
def wr(n:Int):Int:=IntKind.i64.wrap n
def nr(op:Int)(a b:Val):X Val:=
 if op=7 then(if a.kind=b.kind/\a.kind≠2 then .ok (iz (a.n== b.n))else .er 13)
 else if a.kind=0/\b.kind=0 then
  (if op=3 then .ok (pX (wr (a.n+b.n)))else if op=4 then .ok (pX (wr (a.n-b.n)))else if op=5 then .ok (pX (wr (a.n*b.n)))else .ok (iz (decide (a.n<b.n))))
 else .er 13
mutual
def iw:Val->Nat
 |.mk _ _ _ vs=>gK vs+1
def gK:List Val->Nat
 |[]=>0
 |v:: vs=>max (iw v) (gK vs)
end
abbrev Ev:=Int->List az->List Val->Exp->X Val
def boolX(r:X Val):X Bool:=r.bind fun v=>if v.kind=1 then .ok (v.n== 1)else .er 13
def listX(r:Exp->X Val):List Exp->X (List Val)
 |[]=>.ok []
 |e:: es=>(r e).bind fun v=>(listX r es).bind fun vs=>.ok (v:: vs)
def im(r:Exp->X Val)(e:Exp):X Val:=
 if e.names.length=e.args.length/\J4 e.names=true then
  (if e.names.length<=8 then(listX r e.args).bind fun vs=>if iw (.mk 2 0 e.names vs)<=4 then .ok (.mk 2 0 e.names vs)else .er 6 else .er 6)
 else .er 13
def eu(p:List Mod)(at_:Int)(s:az):Option Fun:=
 if at_<0 then none else(let l:=(p[at_.toNat]?.getD default).funcs;let i:=jt l s;if i<0 then none else l[i.toNat]?)
def bT(p:List Mod)(r:Ev)(at_:Int)(f:Fun)(l:List Val):X Val:=
 .get fun m=>if m.frames<60 then
  .upd (fun m=>{ m with calls:=if f.pub=true then m.calls++[⟨(p[at_.toNat]?.getD default).name,f.name,l⟩]else m.calls,frames:=m.frames+1 })
   ((r at_ (f.params.map (·.1)) l f.body).bind fun v=>.upd (fun m=>{ m with frames:=m.frames-1 }) (.ok v))
 else .er 6
def nL(p:List Mod)(r:Ev)(own:Int)(ns:List az)(vs:List Val)(e:Exp):X Val:=
 let at_:=if e.m=[]then own else modAt p e.m
 match eu p at_ e.s with
 |none=>.er 12
 | some f=>if e.m=[]\/f.pub=true then
   (if e.args.length=f.params.length then(listX (r own ns vs) e.args).bind fun l=>bT p r at_ f l else .er 13)
  else .er 12
def tW(r:X Val)(e:Exp):X Val:=
 r.bind fun v=>if v.kind=0 then
  (if e.n=1\/e.n=2\/e.n=4\/e.n=8 then
   .get fun m=>.upd (fun m=>{ m with world:=m.world.tail,deeds:=m.deeds++[⟨e.n,v.n,m.world.headD 0⟩] }) (.ok (pX (m.world.headD 0)))
  else .er 14)
 else .er 13
def setSt(st:List (List Val))(i k:Nat)(v:Val):List (List Val):=st.modify i fun l=>l.set k v
def qV(st:List (List Val))(i k:Nat):Val:=(st.getD i []).getD k default
def tP(p:List Mod)(r:Exp->X Val)(own:Int)(e:Exp):X Val:=
 if own<0 then .er 12 else
 let i:=mh (p[own.toNat]?.getD default).vars e.s
 if i<0 then .er 12 else
 if e.op=18 then(r e.args[0]!).bind fun v=>.upd (fun m=>{ m with state:=setSt m.state own.toNat i.toNat v }) (.ok v)
 else .get fun m=>.ok (qV m.state own.toNat i.toNat)
def jP(p:List Mod)(r:Ev):Ev:=fun own ns vs e=>.get fun m=>
 if m.fuel<=0 then .er 16 else .upd (fun m=>{ m with fuel:=m.fuel-1 }) <|
 let n:=aE e.op
 if n= -2\/(n≠-1/\n≠e.args.length)then .er 13
 else if e.op=0 then .ok (pX e.n)
 else if e.op=1 then(if e.n=0\/e.n=1 then .ok (iz (e.n== 1))else .er 13)
 else if e.op=2 then(match iE ns vs e.s with|some v=>.ok v|none=>.er 12)
 else if e.op=3\/e.op=4\/e.op=5\/e.op=6\/e.op=7 then(r own ns vs e.args[0]!).bind fun a=>(r own ns vs e.args[1]!).bind fun b=>nr e.op a b
 else if e.op=8\/e.op=9 then(boolX (r own ns vs e.args[0]!)).bind fun x=>if x=(e.op== 9)then .ok (iz (e.op== 9))else(boolX (r own ns vs e.args[1]!)).bind fun y=>.ok (iz y)
 else if e.op=10 then(boolX (r own ns vs e.args[0]!)).bind fun x=>.ok (iz !x)
 else if e.op=11 then(boolX (r own ns vs e.args[0]!)).bind fun x=>if x=true then r own ns vs e.args[1]! else r own ns vs e.args[2]!
 else if e.op=12 then(r own ns vs e.args[0]!).bind fun v=>r own (ns++[e.s]) (vs++[v]) e.args[1]!
 else if e.op=13 then im (r own ns vs) e
 else if e.op=14 then(r own ns vs e.args[0]!).bind fun v=>(match iv v.names v.values e.s with|some x=>if v.kind=2 then .ok x else .er 13|none=>.er 13)
 else if e.op=15 then nL p r own ns vs e
 else if e.op=16 then tW (r own ns vs e.args[0]!) e
 else tP p (r own ns vs) own e
def aR(p:List Mod):Nat->Ev
 |0=>fun _ _ _ _=>.er 16
 |n+1=>jP p (aR p n)
def Rs.st{α:Type}:Rs α->Ms
 |.ok _ m=>m
 |.er _ m=>m
def Rs.on{α:Type}(f:Ms->Ms):Rs α->Rs α
 |.ok a m=>.ok a (f m)
 |.er e m=>.er e (f m)
def ji{α:Type}(y:X α):X α:=.get fun m=>if m.fuel<=0 then .er 16 else .upd (fun m=>{ m with fuel:=m.fuel-1 }) y
def Zp(n a:Int):X Val:=.get fun m=>.upd (fun m=>{ m with world:=m.world.tail,deeds:=m.deeds++[⟨n,a,m.world.headD 0⟩] }) (.ok (pX (m.world.headD 0)))
structure Closed (p:List Mod) (Q:Int->(α:Type)->X α->Prop):Prop where
 ok:∀(o:Int)(α:Type)(a:α),Q o α (.ok a)
 er:∀(o:Int)(α:Type)(e:Int),e≠0->Q o α (.er e)
 bind:∀(o:Int)(α β:Type)(x:X α)(f:α->X β),Q o α x->(∀a,Q o β (f a))->Q o β (x.bind f)
 tick:∀(o:Int)(α:Type)(y:X α),Q o α y->Q o α (ji y)
 act:∀(o n a:Int),Q o Val (Zp n a)
 set:∀(o:Int)(k:Nat)(v:Val),¬o<0->Q o Val (.upd (fun m=>{ m with state:=setSt m.state o.toNat k v }) (.ok v))
 get:∀(o:Int)(k:Nat),Q o Val (.get fun m=>.ok (qV m.state o.toNat k))
 enter:∀(o a:Int)(r:Ev)(f:Fun)(l:List Val),¬a<0->a.toNat<p.length->f∈(p[a.toNat]?.getD default).funcs->(∀o ns vs e,Q o Val (r o ns vs e))->Q o Val (bT p r a f l)
def gT{p:List Mod}{a:Int}{s:az}{f:Fun}(h:eu p a s=some f):¬a<0/\a.toNat<p.length/\f∈(p[a.toNat]?.getD default).funcs:=by
 unfold eu at h;by_cases h1:a<0
 ·simp[h1]at h
 ·rw[aaC h1]at h;simp only at h;split at h
  ·cases h
  ·have hm:=abg h;refine⟨h1,?_,hm⟩;rcases aa8 a.toNat p.length with k|k
   ·exact k
   ·rw[acu k]at hm;cases hm
def XO{Q:Int->(α:Type)->X α->Prop}{o:Int}{α:Type}{c:Prop}[Decidable c](x y:X α)(h1:Q o α x)(h2:Q o α y):Q o α (if c then x else y):=by
 grind
section
variable {p:List Mod} {Q:Int->(α:Type)->X α->Prop} (C:Closed p Q)
include C
theorem Closed.boolX{o:Int}{r:X Val}(h:Q o Val r):Q o Bool (boolX r):=by
 refine C.bind _ _ _ _ _ h fun v=>?_;split
 ·exact C.ok _ _ _
 ·exact C.er _ _ _ Vc
theorem Closed.listX{o:Int}{r:Exp->X Val}(h:∀e,Q o Val (r e)):∀l,Q o (List Val) (listX r l)
 |[]=>C.ok _ _ _
 |e:: l=>C.bind _ _ _ _ _ (h e) fun _=>C.bind _ _ _ _ _ (Closed.listX h l) fun _=>C.ok _ _ _
theorem Closed.step{r:Ev}(h:∀o ns vs e,Q o Val (r o ns vs e))(o:Int)(ns:List az)(vs:List Val)(e:Exp):Q o Val (jP p r o ns vs e):=by
 unfold jP;refine C.tick _ _ _ ?_;have B:=fun{α β:Type} {x:X α} {f:α->X β}=>C.bind o α β x f;have I:=@XO Q o;have er:=fun(α:Type) n (h:n≠0)=>C.er o α n h;have ok:=fun(α:Type) (a:α)=>C.ok o α a;refine I _ _ (er _ _ Vc) (I _ _ (ok _ _) (I _ _ (I _ _ (ok _ _) (er _ _ Vc)) (I _ _ ?_ (I _ _ ?_ (I _ _ ?_ (I _ _ ?_ (I _ _ ?_ (I _ _ ?_ (I _ _ ?_ (I _ _ ?_ (I _ _ ?_ (I _ _ ?_ ?_))))))))))))
 ·grind
 ·refine B (h _ _ _ _) fun a=>B (h _ _ _ _) fun b=>?_;unfold nr
  grind
 ·exact B (C.boolX (h _ _ _ _)) fun a=>I _ _ (ok _ _) (B (C.boolX (h _ _ _ _)) fun b=>ok _ _)
 ·exact B (C.boolX (h _ _ _ _)) fun a=>ok _ _
 ·exact B (C.boolX (h _ _ _ _)) fun a=>I _ _ (h _ _ _ _) (h _ _ _ _)
 ·grind
 ·unfold im;exact I _ _ (I _ _ (B (C.listX (fun e=>h _ _ _ e) _) fun vs=>I _ _ (ok _ _) (er _ _ Vc)) (er _ _ Vc)) (er _ _ Vc)
 ·grind
 ·unfold nL;simp only;split
  ·grind
  ·rename_i f hf;obtain⟨h1,h2,h3⟩:=gT hf;exact I _ _ (I _ _ (B (C.listX (fun e=>h _ _ _ e) _) fun l=>C.enter _ _ _ _ _ h1 h2 h3 h) (er _ _ Vc)) (er _ _ Vc)
 ·unfold tW;exact B (h _ _ _ _) fun v=>I _ _ (I _ _ (C.act _ _ _) (er _ _ Vc)) (er _ _ Vc)
 ·unfold tP;split
  ·grind
  ·rename_i ho;exact I _ _ (er _ _ Vc) (I _ _ (B (h _ _ _ _) fun v=>C.set _ _ _ ho) (C.get _ _))
theorem Closed.eval:∀(n:Nat)(o:Int)(ns:List az)(vs:List Val)(e:Exp),Q o Val (aR p n o ns vs e)
 |0,_,_,_,_=>C.er _ _ _ Vc
 |n+1,o,ns,vs,e=>C.step (fun o ns vs e=>Closed.eval n o ns vs e) o ns vs e
end
def YM(α:Type)(x:X α):Prop:=∀m e s,x m= .er e s->e≠0
def jk(p:List Mod)(a:Int)(f:Fun)(l:List Val)(m:Ms):Ms:={ m with calls:=if f.pub=true then m.calls++[⟨(p[a.toNat]?.getD default).name,f.name,l⟩]else m.calls,frames:=m.frames+1 }
def jw(d:Int)(m:Ms):Ms:={ m with fuel:=m.fuel+d }
def Af(α:Type)(x:X α):Prop:=∀m,m.deeds <+: (x m).st.deeds/\m.calls <+: (x m).st.calls
def Ae(α:Type)(x:X α):Prop:=Af α x/\∀m d,0<=d->match x m with
 |.ok a s=>x (jw d m)= .ok a (jw d s)
 |.er e s=>if e=16 then s.deeds <+: (x (jw d m)).st.deeds/\s.calls <+: (x (jw d m)).st.calls else x (jw d m)= .er e (jw d s)
def A5{α β:Type}{x:X α}{f:α->X β}(hx:Af α x)(hf:∀a,Af β (f a)):Af β (x.bind f):=by
 intro m;have h1:=hx m;unfold X.bind;cases hr:x m with
 |er e s=>rw[hr]at h1;exact h1
 |ok a s=>
  rw[hr]at h1;have h2:=hf a s;exact⟨h1.1.trans h2.1,h1.2.trans h2.2⟩
def AX{α β:Type}{x:X α}{f:α->X β}(hx:Ae α x)(hf:∀a,Ae β (f a)):Ae β (x.bind f):=by
 refine⟨A5 hx.1 fun a=>(hf a).1,fun m d hd=>?_⟩;have h1:=hx.2 m d hd;cases hr:x m with
 | er e s=>
  rw[hr]at h1;simp only[X.bind,hr]at h1 |-;by_cases he:e=16
  ·simp only[he,aaV]at h1 |-;cases hr2:x (jw d m)with
   |er e2 s2=>rw[hr2]at h1;exact h1
   |ok a2 s2=>
    rw[hr2]at h1;have h2:=(hf a2).1 s2;exact⟨h1.1.trans h2.1,h1.2.trans h2.2⟩
  grind
 |ok a s=>
  rw[hr]at h1;have h2:=(hf a).2 s d hd;simp only[X.bind,hr,h1];exact h2
def lN{α:Type}{x:X α}(hg:Af α x)(h:∀m d,x (jw d m)=(x m).on (jw d)):Ae α x:=by
 refine⟨hg,fun m d hd=>?_⟩;have h1:=h m d;cases hr:x m with
 |ok a s=>rw[hr]at h1;exact h1
 |er e s=>
  rw[hr]at h1;simp only;split
  ·rw[h1];exact⟨abn _,abn _⟩
  ·exact h1
theorem ES(p:List Mod):Closed p fun _=>Ae where
 ok:=fun _ _ a=>lN (fun m=>⟨abn _,abn _⟩) fun m d=>rfl
 er:=fun _ _ a _=>lN (fun m=>⟨abn _,abn _⟩) fun m d=>rfl
 bind:=fun _ _ _ x f hx hf=>AX hx hf
 tick:=fun _ _ y hy=>by
  have hg:Af _ (ji y):=fun m=>by
   unfold ji X.get;by_cases h:m.fuel<=0
   ·simp only[h,aaV];exact⟨abn _,abn _⟩
   ·simp only[h,aaR];exact hy.1 { m with fuel:=m.fuel-1 }
  refine⟨hg,fun m d hd=>?_⟩;by_cases h:m.fuel<=0
  ·have e1:ji y m= .er 16 m:=by unfold ji X.get;simp only[h,aaV];rfl
   rw[e1];simp only[aaV];exact hg (jw d m)
  ·have e1:ji y m=y { m with fuel:=m.fuel-1 }:=by unfold ji X.get;simp only[h,aaR];rfl
   have h':¬(m.fuel+d<=0):=WD
   have e2:ji y (jw d m)=y (jw d { m with fuel:=m.fuel-1 }):=by
    have e3:jw d { m with fuel:=m.fuel-1 } = { jw d m with fuel:=(jw d m).fuel-1 }:=by
     simp only[jw,Ms.mk.injEq,acw];omega
    rw[e3];have h'':¬((jw d m).fuel<=0):=h';unfold ji X.get;simp only[h'',aaR];rfl
   rw[e1,e2];exact hy.2 _ d hd
 act:=fun _ n a=>lN (fun m=>⟨⟨_,rfl⟩,abn _⟩) fun m d=>rfl
 set:=fun _ k v _=>lN (fun m=>⟨abn _,abn _⟩) fun m d=>rfl
 get:=fun _ k=>lN (fun m=>⟨abn _,abn _⟩) fun m d=>rfl
 enter:=fun _ a r f l _ _ _ hr=>by
  have hb:Ae Val ((r a (f.params.map (·.1)) l f.body).bind fun v=>.upd (fun m=>{ m with frames:=m.frames-1 }) (.ok v)):=
   AX (hr _ _ _ _) fun v=>lN (fun m=>⟨abn _,abn _⟩) fun m d=>rfl
  have e0:∀m,bT p r a f l m=if m.frames<60 then((r a (f.params.map (·.1)) l f.body).bind fun v=>.upd (fun m=>{ m with frames:=m.frames-1 }) (.ok v)) (jk p a f l m)else .er 6 m:=fun m=>by
   unfold bT X.get;by_cases h:m.frames<60
   ·simp only[h,aaV];rfl
   ·simp only[h,aaR];rfl
  refine⟨fun m=>?_,fun m d hd=>?_⟩
  ·rw[e0];split
   ·have:=hb.1 (jk p a f l m)
    refine⟨this.1,.trans ?_ this.2⟩;simp only[jk]
    grind
   ·exact⟨abn _,abn _⟩
  ·have e1:=e0 m;have e2:=e0 (jw d m);have e3:(jw d m).frames=m.frames:=rfl;rw[e3]at e2;by_cases h:m.frames<60
   ·rw[aaH h]at e1 e2;rw[e1,e2];exact hb.2 (jk p a f l m) d hd
   grind
def Hm(p:List Mod):Closed p fun _=>YM where
 ok:=fun _ _ a m e s h=>by cases h
 er:=fun _ _ a h m e s h2=>by cases h2;exact h
 bind:=fun _ _ _ x f hx hf m e s h=>by
  unfold X.bind at h;cases hr:x m with
  |er c t=>rw[hr]at h;cases h;exact hx m _ _ hr
  |ok a t=>rw[hr]at h;exact hf a t e s h
 tick:=fun _ _ y hy m e s h=>by
  unfold ji X.get at h;by_cases hf:m.fuel<=0
  ·simp only[hf,aaV]at h;cases h;decide
  ·simp only[hf,aaR]at h;exact hy _ e s h
 act:=fun _ n a m e s h=>by cases h
 set:=fun _ k v _ m e s h=>by cases h
 get:=fun _ k m e s h=>by cases h
 enter:=fun _ a r f l _ _ _ hr m e s h=>by
  unfold bT X.get at h;by_cases hf:m.frames<60
  ·simp only[hf,aaV,X.upd,X.bind]at h;cases hq:r a (f.params.map (·.1)) l f.body { m with calls:=if f.pub=true then m.calls++[⟨(p[a.toNat]?.getD default).name,f.name,l⟩]else m.calls,frames:=m.frames+1 }with
   |ok b t=>rw[hq]at h;cases h
   |er c t=>rw[hq]at h;cases h;exact hr _ _ _ _ _ _ _ hq
  ·simp only[hf,aaR]at h;cases h;decide
theorem EC{p:List Mod}{n:Nat}{o:Int}{ns:List az}{vs:List Val}{e:Exp}{m s:Ms}{c:Int}(h:aR p n o ns vs e m= .er c s):c≠0:=(Hm p).eval n o ns vs e m c s h
def B8(m:Ms):Prop:=(∀l∈m.state,∀v∈l,cb 4 v=true)/\(∀c∈m.calls,∀v∈c.args,cb 4 v=true)
def mE(m:Ms):List Nat:=m.state.map List.length
def RQ{α:Type}(x:X α)(Q:α->Prop):Prop:=∀m,B8 m->B8 (x m).st/\mE (x m).st=mE m/\∀a s,x m= .ok a s->Q a
theorem lk{α:Type}{a:α}{Q:α->Prop}(h:Q a):RQ (.ok a) Q:=fun m hm=>⟨hm,rfl,fun b s e=>by cases e;exact h⟩
def jF{α:Type}{e:Int}{Q:α->Prop}:RQ (.er e) Q:=fun m hm=>⟨hm,rfl,fun b s e=>by cases e⟩
theorem fN{α β:Type}{x:X α}{f:α->X β}{Q:α->Prop}{R:β->Prop}(hx:RQ x Q)(hf:∀a,Q a->RQ (f a) R):RQ (x.bind f) R:=by
 intro m hm;obtain⟨h1,h2,h3⟩:=hx m hm;cases hr:x m with
 |er e s=>
  rw[hr]at h1 h2;simp only[X.bind,hr];exact⟨h1,h2,fun b s e=>by cases e⟩
 |ok a s=>
  rw[hr]at h1 h2;obtain⟨g1,g2,g3⟩:=hf a (h3 a s hr) s h1;simp only[X.bind,hr];exact⟨g1,g2.trans h2,g3⟩
def cQ{α:Type}{c:Prop}[Decidable c]{x y:X α}{Q:α->Prop}(h1:c->RQ x Q)(h2:¬c->RQ y Q):RQ (if c then x else y) Q:=by
 grind
abbrev Rv(v:Val):Prop:=cb 4 v=true
def jf(n:Int):Rv (pX n):=by simp_all[Rv,pX,cb]
theorem jg(b:Bool):Rv (iz b):=by cases b<;>rfl
theorem ml:(l:List Val)->(d:Nat)->(gK l<=d↔∀v∈l,iw v<=d)
 |[],d=>by simp[gK]
 |v:: l,d=>by
  simp only[gK,aaT,forall_eq_or_imp];rw[<- ml l d];omega
def nZ(v:Val):iw v=gK v.values+1:=by cases v;rfl
theorem AR:∀(d:Nat)(v:Val),cb (d+1) v=true->iw v<=d->cb d v=true
 |0,v,_,hl=>by rw[nZ]at hl;omega
 | d+1,v,h,hl=>by
  rw[nZ]at hl;unfold cb at h|-;split at h
  ·grind
  ·rename_i hk;rw[aaC hk];simp only[aaD,aaS]at h|-;exact⟨h.1,fun x hx=>AR d x (h.2 x hx) ((ml v.values d).1 WD x hx)⟩
theorem Ll{ns:List az}{vs:List Val}(hl:ns.length=vs.length)(ha:J4 ns=true)(h8:ns.length<=8)(hv:∀v∈vs,Rv v)(h4:iw (.mk 2 0 ns vs)<=4):Rv (.mk 2 0 ns vs):=by
 have h3:gK vs<=3:=by
  rw[nZ]at h4;have:(Val.mk 2 0 ns vs).values=vs:=rfl;rw[this]at h4;omega
 have h5:=(ml vs 3).1 h3;unfold Rv cb;simp_all[AR]
theorem I8:∀(d:Nat)(v:Val),cb d v=true->cb (d+1) v=true
 |0,v,h=>by simp[cb]at h
 | d+1,v,h=>by
  unfold cb at h|-;split at h
  ·grind
  ·rename_i hk;rw[aaC hk];simp only[aaD,aaS]at h|-;exact⟨h.1,fun x hx=>I8 d x (h.2 x hx)⟩
def F0{v x:Val}(h:Rv v)(hx:x∈v.values):Rv x:=by
 unfold Rv cb at h;split at h
 ·grind
 ·simp only[aaD,aaS]at h;exact I8 3 x (h.2 x hx)
def Ih{v:Val}(h:Rv v):v.names.length=v.values.length:=by
 unfold Rv cb at h
 grind
theorem Fw:∀(ns:List az)(vs:List Val)(s:az)(v:Val),iE ns vs s=some v->v∈vs
 | n:: ns,w:: vs,s,v,h=>by
  unfold iE at h;split at h
  ·rename_i x hx;cases h;exact abb _ (Fw ns vs s v hx)
  grind
 |[],_,_,_,h=>by simp[iE]at h
 |_:: _,[],_,_,h=>by simp[iE]at h
theorem xC:∀(ns:List az)(vs:List Val)(s:az)(v:Val),iv ns vs s=some v->v∈vs
 |n:: ns,w:: vs,s,v,h=>by
  unfold iv at h;split at h
  ·grind
  ·exact abb _ (xC ns vs s v h)
 |[],_,_,_,h=>by simp[iv]at h
 |_:: _,[],_,_,h=>by simp[iv]at h
def py(ns:List az)(vs:List Val):Prop:=ns.length=vs.length/\∀v∈vs,Rv v
theorem wz{r:X Val}(h:RQ r Rv):RQ (boolX r) fun _=>True:=fN h fun _ _=>cQ (fun _=>lk trivial) (fun _=>jF)
theorem Di{r:Exp->X Val}(h:∀e,RQ (r e) Rv):∀l,RQ (listX r l) fun vs=>vs.length=l.length/\∀v∈vs,Rv v
 |[]=>lk ⟨rfl,fun v hv=>by cases hv⟩
 |e:: l=>fN (h e) fun v hv=>fN (Di h l) fun vs hvs=>lk ⟨by simp[hvs.1],fun w hw=>by
  grind⟩
def EX{st:List (List Val)}(h:∀l∈st,∀v∈l,Rv v)(i k:Nat)(hd:Rv default):Rv (qV st i k):=by
 unfold qV;rw[abv,abv];cases h1:st[i]? with
 |none=>simpa using hd
 |some l=>
  simp only[ab6];cases h2:l[k]? with
  |none=>simpa using hd
  |some v=>exact h l (abg h1) v (abg h2)
def F8{p:List Mod}{r:Ev}{a:Int}{f:Fun}{l:List Val}(hr:∀o ns vs e,py ns vs->RQ (r o ns vs e) Rv)(hl:l.length=f.params.length)(hv:∀v∈l,Rv v):RQ (bT p r a f l) Rv:=by
 have e0:∀m,bT p r a f l m=if m.frames<60 then((r a (f.params.map (·.1)) l f.body).bind fun v=>.upd (fun m=>{ m with frames:=m.frames-1 }) (.ok v)) (jk p a f l m)else .er 6 m:=fun m=>by
  unfold bT X.get;by_cases h:m.frames<60
  ·simp only[h,aaV];rfl
  ·simp only[h,aaR];rfl
 intro m hm;rw[e0];split
 ·have hb:RQ ((r a (f.params.map (·.1)) l f.body).bind fun v=>.upd (fun m=>{ m with frames:=m.frames-1 }) (.ok v)) Rv:=
   fN (hr _ _ _ _ ⟨by simp[hl],hv⟩) fun _ hv m hm=>⟨hm,rfl,fun a s e=>by cases e;exact hv⟩
  have hm':B8 (jk p a f l m):=by
   refine⟨hm.1,fun c hc=>?_⟩;simp only[jk]at hc;split at hc
   ·rcases aba.1 hc with h|h
    ·exact hm.2 c h
    grind
   ·exact hm.2 c hc
  exact hb _ hm'
 ·exact⟨hm,rfl,fun _ _ e=>by cases e⟩
def right_step{p:List Mod}{r:Ev}(hr:∀o ns vs e,py ns vs->RQ (r o ns vs e) Rv)(o:Int)(ns:List az)(vs:List Val)(e:Exp)(hs:py ns vs):RQ (jP p r o ns vs e) Rv:=by
 have tick:∀y:X Val,RQ y Rv->RQ (ji y) Rv:=fun y hy m hm=>by
  unfold ji X.get;by_cases h:m.fuel<=0
  ·simp only[h,aaV];exact⟨hm,rfl,fun _ _ e=>by cases e⟩
  ·simp only[h,aaR];exact hy { m with fuel:=m.fuel-1 } hm
 have H:=fun e=>hr o ns vs e hs;refine tick _ ?_;refine cQ (fun _=>jF) fun _=>cQ (fun _=>lk (jf _)) fun _=>cQ (fun _=>cQ (fun _=>lk (jg _)) fun _=>jF) fun _=>cQ (fun _=>?_) fun _=>
  cQ (fun _=>?_) fun _=>cQ (fun _=>?_) fun _=>cQ (fun _=>?_) fun _=>cQ (fun _=>?_) fun _=>cQ (fun _=>?_) fun _=>cQ (fun _=>?_) fun _=>cQ (fun _=>?_) fun _=>
  cQ (fun _=>?_) fun _=>cQ (fun _=>?_) fun _=>?_
 ·split
  ·rename_i v hv;exact lk (hs.2 v (Fw _ _ _ _ hv))
  ·exact jF
 ·refine fN (H _) fun a ha=>fN (H _) fun b hb=>?_;unfold nr;exact cQ (fun _=>cQ (fun _=>lk (jg _)) fun _=>jF) fun _=>cQ (fun _=>cQ (fun _=>lk (jf _)) fun _=>cQ (fun _=>lk (jf _)) fun _=>cQ (fun _=>lk (jf _)) fun _=>lk (jg _)) fun _=>jF
 ·exact fN (wz (H _)) fun a _=>cQ (fun _=>lk (jg _)) fun _=>fN (wz (H _)) fun b _=>lk (jg _)
 ·grind [fN,wz,lk,jg]
 ·exact fN (wz (H _)) fun a _=>cQ (fun _=>H _) fun _=>H _
 ·exact fN (H _) fun v hv=>hr _ _ _ _ ⟨by simp[hs.1],fun w hw=>by
   rcases aba.1 hw with h|h
   ·exact hs.2 w h
   grind⟩
 ·unfold im;exact cQ (fun h1=>cQ (fun h2=>fN (Di H _) fun vs hvs=>cQ (fun h3=>lk (Ll qr h1.2 h2 hvs.2 h3)) fun _=>jF) fun _=>jF) fun _=>jF
 ·refine fN (H _) fun v hv=>?_;split
  ·rename_i x hx;exact cQ (fun _=>lk (F0 hv (xC _ _ _ _ hx))) fun _=>jF
  ·exact jF
 ·unfold nL;simp only;split
  ·exact jF
  ·rename_i f hf;exact cQ (fun _=>cQ (fun h2=>fN (Di H _) fun l hl=>F8 hr (by rw[hl.1,h2]) hl.2) fun _=>jF) fun _=>jF
 ·unfold tW;exact fN (H _) fun v hv=>cQ (fun _=>cQ (fun _ m hm=>⟨hm,rfl,fun a s e=>by cases e;exact jf _⟩) fun _=>jF) fun _=>jF
 ·unfold tP;refine cQ (fun _=>jF) fun ho=>?_;simp only;refine cQ (fun _=>jF) fun hi=>cQ (fun _=>fN (H _) fun v hv m hm=>⟨⟨?_,hm.2⟩,?_,fun a s e=>by cases e;exact hv⟩) fun _ m hm=>⟨hm,rfl,fun a s e=>by cases e;exact EX hm.1 _ _ (jf 0)⟩
  ·intro l hl w hw;simp only[X.upd,X.ok,Rs.st,setSt]at hl;obtain⟨j,hj⟩:=acK.1 hl;rw[List.getElem?_modify]at hj;cases h1:m.state[j]? with
   |none=>simp[h1]at hj
   |some l0=>
    rw[h1]at hj;simp only[Option.map_eq_map,abq,aaB]at hj;have hold:=hm.1 l0 (abg h1)
    grind
  ·simp only[X.upd,X.ok,Rs.st,mE,setSt];apply abY
   grind
theorem pb{p:List Mod}:∀(n:Nat)(o:Int)(ns:List az)(vs:List Val)(e:Exp),py ns vs->RQ (aR p n o ns vs e) Rv
 |0,_,_,_,_,_=>jF
 |n+1,o,ns,vs,e,hs=>right_step (fun o ns vs e h=>pb n o ns vs e h) o ns vs e hs
def nj(p:List Mod):Bool:=(List.range p.length).any fun i=>(p.take i).any fun m=>m.name== (p[i]?.getD default).name
def dD(p:List Mod):Int:=if 20<p.length then 6 else if nj p=true then 5 else 0
def aW(world:List Int)(fuel:Int)(st:List (List Val)):Ms:=⟨fuel,0,world,[],[],st⟩
def mc(e:Exp)(ns:List az)(vs:List Val):Rs Val:=
 if ns.length=vs.length/\vs.all (cb 4)=true then aR [] 100000 (-1) ns vs e (aW [] 100000 [])else .er 1 (aW [] 100000 [])
def m0:List Exp->Except Int (List Val)
 |[]=>.ok []
 | e:: es=>match mc e [] []with
  |.er c _=>.error c
  |.ok v _=>match m0 es with
   |.error c=>.error c
   |.ok vs=>.ok (v:: vs)
def fw:List Mod->Except Int (List Vars)
 |[]=>.ok []
 | m:: ms=>if m.init.length=m.vars.length then(match m0 m.init with
   |.error c=>.error c
   |.ok vs=>match fw ms with
    |.error c=>.error c
    |.ok r=>.ok (⟨m.name,vs⟩:: r))
  else .error 13
def eB(p:List Mod):Except Int (List Vars):=if dD p=0 then fw p else .error (dD p)
def dB(p:List Mod)(st:List Vars):Bool:=jX (fun(m:Mod) (v:Vars)=>v.module== m.name&&(v.values.length== m.vars.length&&v.values.all (cb 4))) p st
def rB(e:Int):Out:=⟨e,default,[],[],[]⟩
def yN(ns:List az):Rs Val->Out
 |.ok v m=>⟨0,v,m.deeds,m.calls,List.zipWith Vars.mk ns m.state⟩
 |.er e m=>⟨e,default,m.deeds,m.calls,List.zipWith Vars.mk ns m.state⟩
def jr(p:List Mod)(st:List Vars)(module fn:az)(args:List Val)(world:List Int)(fuel:Int):Out:=
 if dD p≠0 then rB (dD p)
 else if fuel<0\/100000<fuel\/dB p st=false then rB 1
 else match eu p (modAt p module) fn with
  |none=>rB 4
  | some f=>if args.length=f.params.length/\args.all (cb 4)=true then
    yN (st.map (·.module)) (bT p (aR p 100000) (modAt p module) f args (aW world fuel (st.map (·.values))))
   else rB 13
def fW(p:List Mod)(module fn:az)(args:List Val)(world:List Int)(fuel:Int):Out:=
 match eB p with
 |.error e=>rB e
 |.ok st=>jr p st module fn args world fuel
theorem tX{α β:Type}{F:α->β->Bool}:{a:List α} ->{b:List β} ->jX F a b=true->a.length=b.length/\∀(i:Nat)(x:α)(y:β),a[i]? = some x->b[i]? = some y->F x y=true
 |[],[],_=>⟨rfl,fun i x y h=>by simp at h⟩
 |[],_:: _,h=>by simp[jX]at h
 |_:: _,[],h=>by simp[jX]at h
 |x:: a,y:: b,h=>by
  simp only[jX,aaD]at h;obtain⟨h1,h2⟩:=tX h.2
  grind
def KY(p:List Mod):dD p≠16:=by
 grind [dD]
def xR(p:List Mod)(st:List Vars)(module fn:az)(args:List Val):
  (∃e,(e≠16/\e≠0)/\∀(world:List Int)(fuel:Int),0<=fuel->fuel<=100000->jr p st module fn args world fuel=rB e)\/
  (∃(a:Int)(f:Fun),f∈(p[a.toNat]?.getD default).funcs/\¬a<0/\a.toNat<p.length/\args.length=f.params.length/\(∀v∈args,Rv v)/\dB p st=true/\
   ∀(world:List Int)(fuel:Int),0<=fuel->fuel<=100000->jr p st module fn args world fuel=yN (st.map (·.module)) (bT p (aR p 100000) a f args (aW world fuel (st.map (·.values))))):=by
 by_cases hn:dD p=0
 ·by_cases hb:dB p st=true
  ·cases hf:eu p (modAt p module) fn with
   |none=>
    left;refine⟨4,⟨Vc,Vc⟩,fun w fu g0 g1=>?_⟩;simp_all[jr,aaC]
   | some f=>
    obtain⟨f1,f2,f3⟩:=gT hf;by_cases ha:args.length=f.params.length/\args.all (cb 4)=true
    ·right;refine⟨modAt p module,f,f3,f1,f2,ha.1,fun v hv=>(aaS.1 ha.2) v hv,hb,fun w fu g0 g1=>?_⟩;simp_all[jr,aaC]
    ·left;refine⟨13,⟨Vc,Vc⟩,fun w fu g0 g1=>?_⟩;simp_all[jr,aaC]
  ·left;refine⟨1,⟨Vc,Vc⟩,fun w fu g0 g1=>?_⟩;simp_all[jr]
 ·left;refine⟨dD p,⟨KY p,hn⟩,fun w fu _ _=>?_⟩;unfold jr;rw[aaH hn]
def uZ{p:List Mod}{a:Int}{f:Fun}{l:List Val}{n:Nat}(hl:l.length=f.params.length)(hv:∀v∈l,Rv v):RQ (bT p (aR p n) a f l) Rv:=F8 (fun o ns vs e h=>pb n o ns vs e h) hl hv
def FN(ns:List az)(r:Rs Val):(yN ns r).deeds=r.st.deeds:=by cases r<;>rfl
def m8(ns:List az)(r:Rs Val):(yN ns r).calls=r.st.calls:=by cases r<;>rfl
def p9(ns:List az)(r:Rs Val):(yN ns r).state=List.zipWith Vars.mk ns r.st.state:=by cases r<;>rfl
def GL(o:Out):Prop:=Rv o.value/\(∀c∈o.calls,∀v∈c.args,Rv v)/\∀x∈o.state,∀v∈x.values,Rv v
theorem o9(e:Int):GL (rB e):=⟨jf 0,fun c hc=>by simp[rB]at hc,fun c hc=>by simp[rB]at hc⟩
def ku{p:List Mod}{st:List Vars}(h:dB p st=true):st.length=p.length/\(∀x∈st,∀v∈x.values,Rv v)/\∀(i:Nat)(m:Mod)(x:Vars),p[i]? = some m->st[i]? = some x->x.module=m.name/\x.values.length=m.vars.length:=by
 obtain⟨h1,h2⟩:=tX h;refine⟨h1.symm,fun x hx v hv=>?_,fun i m x hm hx=>?_⟩
 ·obtain⟨i,hi⟩:=acK.1 hx;have hlt:i<st.length:=(aaJ.1 hi).1
  have:=h2 i (p[i]'(WD)) x (aaE _) hi
  grind
 grind
def rk{ns:List az}{st:List (List Val)}{x:Vars}(h:x∈List.zipWith Vars.mk ns st):x.values∈st:=by
 obtain⟨i,hi⟩:=acK.1 h
 grind
theorem Hx(p:List Mod)(st:List Vars)(module fn:az)(args:List Val)(world:List Int)(fuel:Int):GL (jr p st module fn args world fuel):=by
 by_cases h0:0<=fuel/\fuel<=100000
 ·rcases xR p st module fn args with⟨e,he,h⟩|⟨a,f,hf,ha,hl,hargs,hv,hb,h⟩
  ·grind [o9]
  ·rw[h world fuel h0.1 h0.2];obtain⟨_,b2,_⟩:=ku hb;obtain⟨q1,_,q3⟩:=uZ (p:=p) (a:=a) (n:=100000) hargs hv (aW world fuel (st.map (·.values))) ⟨fun l hl v hv=>by
    simp only[aW,abe]at hl
    grind,fun c hc=>by simp[aW]at hc⟩
   refine⟨?_,by rw[m8];exact q1.2,fun x hx v hv=>?_⟩
   ·cases hr:bT p (aR p 100000) a f args (aW world fuel (st.map (·.values)))with
    |ok v s=>exact q3 v s hr
    |er e s=>exact jf 0
   ·rw[p9]at hx;exact q1.1 _ (rk hx) v hv
 ·unfold jr;split
  ·exact o9 _
  ·rw[aaH WD];exact o9 _
def Lp(p:List Mod)(module fn:az)(args:List Val)(world:List Int)(fuel:Int):GL (fW p module fn args world fuel):=by
 grind [fW,o9,Hx]
theorem pT:(l:List Exp)->(vs:List Val)->m0 l= .ok vs->vs.length=l.length/\∀v∈vs,Rv v
 |[],vs,h=>by cases h;grind
 | e :: es,vs,h=>by
  unfold m0 at h;split at h
  ·cases h
  ·rename_i v s hv;split at h
   ·cases h
   ·rename_i ws hws;cases h;obtain⟨h1,h2⟩:=pT es ws hws;refine⟨by simp[h1],fun w hw=>?_⟩;rcases aaT.1 hw with rfl|hw
    ·unfold mc at hv;rw[aaH AI]at hv;exact (pb 100000 (-1) [] [] e ⟨rfl,fun v hv=>by cases hv⟩ (aW [] 100000 []) ⟨fun l hl=>by simp[aW]at hl,fun l hl=>by simp[aW]at hl⟩).2.2 _ _ hv
    grind
theorem pR:(p:List Mod)->(st:List Vars)->fw p= .ok st->dB p st=true
 |[],st,h=>by cases h;rfl
 | m :: ms,st,h=>by
  unfold fw at h;split at h
  ·rename_i hl;split at h
   ·cases h
   ·rename_i vs hvs;split at h
    ·cases h
    ·rename_i r hr;cases h;obtain⟨h1,h2⟩:=pT _ _ hvs
     have:=pR ms r hr
     simp_all[dB,jX]
  ·cases h
def xP{p:List Mod}{st:List Vars}(h:eB p= .ok st):dB p st=true:=by
 grind [eB,pR]
theorem A9:(l:List Exp)->(c:Int)->m0 l= .error c->c≠0
 |[],c,h=>by cases h
 | e:: es,c,h=>by
  unfold m0 at h;split at h
  ·grind [mc,EC]
  ·split at h
   ·rename_i c' hc;cases h;exact A9 es _ hc
   ·cases h
theorem xO:(p:List Mod)->(c:Int)->fw p= .error c->c≠0
 |[],c,h=>by cases h
 | m :: ms,c,h=>by
  unfold fw at h;split at h
  ·split at h
   ·grind [A9]
   ·split at h
    ·rename_i c' hc;cases h;exact xO ms _ hc
    ·cases h
  grind
def xQ{p:List Mod}{c:Int}(h:eB p= .error c):c≠0:=by
 grind [eB,xO]
end Go.Av.Ap
namespace Go.Av.Ap
open Go Go.Av
theorem kI{α:Type}{F:α->Bool}:∀(l:List α)(i:Int),0<=i->(l.find? F=none/\aS F l i<0)\/∃(k:Nat)(h:k<l.length),aS F l i=i+k/\l.find? F=some l[k]
 |[],i,hi=>.inl ⟨rfl,by simp[aS]⟩
 | x:: l,i,hi=>by
  by_cases hx:F x=true
  ·exact .inr ⟨0,AI,by simp[aS,hx],by simp[abG,hx]⟩
  ·have hx':F x=false:=by simpa using hx
   rcases kI l (i+1) (WD)with⟨h1,h2⟩|⟨k,hk,h1,h2⟩
   ·exact .inl ⟨by rw[List.find?_cons_of_neg (by simp[hx']),h1],by simp[aS,hx'];exact h2⟩
   ·exact .inr ⟨k+1,by simpa using hk,by simp[aS,hx'];omega,by simp[abG,hx',h2]⟩
def mi(p:List Mod)(M s:az):eu p (modAt p M) s=findR p (M,s):=by
 unfold eu findR modAt;rcases kI (F:=fun m:Mod=>m.name== M) p 0 (WD)with⟨h1,h2⟩|⟨k,hk,h1,h2⟩
 ·simp only[h1,aaH h2]
 ·have h3:¬(0+(k:Int))<0:=WD
  have h4:(0+(k:Int)).toNat=k:=WD
  simp only[h1,h2,aaC h3,h4];have h5:(p[k]?.getD default).funcs=p[k].funcs:=by rw[aaE hk];rfl
  rw[h5];unfold jt;rcases kI (F:=fun f:Fun=>f.name== s) p[k].funcs 0 (WD)with⟨g1,g2⟩|⟨j,hj,g1,g2⟩
  ·simp only[g1,aaH g2]
  ·have g3:¬(0+(j:Int))<0:=WD
   have g4:(0+(j:Int)).toNat=j:=WD
   simp only[g1,g2,aaC g3,g4,aaE hj]
def HS{p:List Mod}{M:az}(h:¬modAt p M<0):(p[(modAt p M).toNat]?.getD default).name=M:=by
 unfold modAt at h|-;rcases kI (F:=fun m:Mod=>m.name== M) p 0 (WD)with⟨h1,h2⟩|⟨k,hk,h1,h2⟩
 ·exact absurd h2 h
 ·have h4:(0+(k:Int)).toNat=k:=WD
  rw[h1,h4,aaE hk]
  have:=acE h2
  simpa using this
variable {α:Type}
section
variable (R:aA->Prop) (E:Int->Prop)
def sq(m m':Ms):Prop:=(∀c∈m'.calls,c∈m.calls\/R (c.module,c.func))/\(∀d∈m'.deeds,d∈m.deeds\/E d.effect)
def XR(α:Type)(x:X α):Prop:=∀m,sq R E m (x m).st
variable {R E}
theorem sq.refl(m:Ms):sq R E m m:=⟨fun c h=>.inl h,fun d h=>.inl h⟩
theorem sq.trans{a b c:Ms}(h1:sq R E a b)(h2:sq R E b c):sq R E a c:=⟨fun x hx=>by
 rcases h2.1 x hx with h|h
 ·exact h1.1 x h
 ·exact .inr h,fun x hx=>by
 rcases h2.2 x hx with h|h
 ·exact h1.2 x h
 ·exact .inr h⟩
theorem JQ{x:X α}(h:∀m,(x m).st.calls=m.calls/\(x m).st.deeds=m.deeds):XR R E α x:=fun m=>⟨fun c hc=>.inl (by rwa [(h m).1]at hc),fun d hd=>.inl (by rwa [(h m).2]at hd)⟩
theorem fP{β:Type}{x:X α}{f:α->X β}(hx:XR R E α x)(hf:∀a,XR R E β (f a)):XR R E β (x.bind f):=by
 intro m;have h1:=hx m;unfold X.bind;cases hr:x m with
 |er e s=>rw[hr]at h1;exact h1
 |ok a s=>rw[hr]at h1;exact h1.trans (hf a s)
theorem lx(a:α):XR R E α (.ok a):=JQ fun _=>⟨rfl,rfl⟩
theorem jj(e:Int):XR R E α (.er e):=JQ fun _=>⟨rfl,rfl⟩
theorem DK{r:Exp->X Val}:∀(l:List Exp),(∀e∈l,XR R E Val (r e))->XR R E (List Val) (listX r l)
 |[],_=>lx _
 |e:: l,h=>fP (h e abm) fun v=>fP (DK l fun e he=>h e (abb _ he)) fun vs=>lx _
theorem wD{r:X Val}(h:XR R E Val r):XR R E Bool (boolX r):=fP h fun v=>by split;exact lx _;exact jj _
theorem dA{c:Prop}[Decidable c]{x y:X α}(hx:c->XR R E α x)(hy:¬c->XR R E α y):XR R E α (if c then x else y):=by
 split
 ·exact hx ‹_›
 ·exact hy ‹_›
theorem zx{f:Ms->Ms}{x:X α}(hf:∀m,sq R E m (f m))(hx:XR R E α x):XR R E α (.upd f x):=fun m=>(hf m).trans (hx (f m))
theorem DJ{f:Ms->X α}(hf:∀m,sq R E m ((f m) m).st):XR R E α (.get f):=fun m=>hf m
end
def qK(a b:BitVec 64):Prop:=a ||| b=b
def qK.refl(a:BitVec 64):qK a a:=acL
def qK.trans{a b c:BitVec 64}(h1:qK a b)(h2:qK b c):qK a c:=by
 unfold qK at *;rw[<- h2,<- acF,h1]
theorem uI{α:Type}(v:α->BitVec 64):∀(l:List α)(s:BitVec 64),qK s (l.foldl (fun s x=>s ||| v x) s)/\∀x∈l,qK (v x) (l.foldl (fun s x=>s ||| v x) s)
 |[],s=>⟨qK.refl s,fun x hx=>by cases hx⟩
 |y:: l,s=>by
  obtain⟨h1,h2⟩:=uI v l (s ||| v y);simp only[acd];have a1:qK s (s ||| v y):=by unfold qK;rw[<- acF,acL]
  have a2:qK (v y) (s ||| v y):=by unfold qK;rw[BitVec.or_comm s,<- acF,acL]
  refine⟨a1.trans h1,fun x hx=>?_⟩;rcases aaT.1 hx with rfl|hx
  ·exact a2.trans h1
  ·exact h2 x hx
def Tp(p:List Mod)(f:aA):BitVec 64:=orQ (To p) 0#64 ((dz p f).map (·.1))
def MA{p:List Mod}{f r:aA}{e:Exp}(hr:r∈lD p f)(he:e∈gm (jm p r)):qK (Pv e) (Tp p f):=
 ((uI Pv _ 0#64).2 e he).trans ((uI (To p) _ 0#64).2 r (lH.1 hr))
def wG(p:List Mod)(f:aA)(n:Int):Prop:=(n=1\/n=2\/n=4\/n=8)/\qK (BitVec.ofInt 64 n) (Tp p f)
def Ey{p:List Mod}{f0:aA}{r:Ev}{M s:az}{g:Fun}{l:List Val}(hM:(M,s)∈lD p f0)(hg:findR p (M,s)=some g)(hat:¬modAt p M<0)(hr:∀ns vs,XR (· ∈lD p f0) (wG p f0) Val (r (modAt p M) ns vs g.body)):XR (· ∈lD p f0) (wG p f0) Val (bT p r (modAt p M) g l):=by
 have hn:g.name=s:=by
  unfold findR at hg;split at hg
  ·have:=acE hg
   simpa using this
  ·cases hg
 refine DJ fun m=>(dA (fun _=>(?_:XR _ _ Val _)) fun _=>jj _) m;refine zx (fun m=>?_) (fP (hr _ _) fun v=>zx (fun m=>?_) (lx _))
 ·refine⟨fun c hc=>?_,fun d hd=>.inl hd⟩;by_cases hp:g.pub=true
  ·rw[aaH hp]at hc;rcases aba.1 hc with h|h
   ·exact .inl h
   ·refine .inr ?_;rw[abF.1 h];show ((p[(modAt p M).toNat]?.getD default).name,g.name)∈lD p f0;rw[HS hat,hn];exact hM
  ·rw[aaC hp]at hc;exact .inl hc
 ·exact⟨fun c hc=>.inl hc,fun d hd=>.inl hd⟩
theorem Py{p:List Mod}{f0:aA}:∀(n:Nat)(ns:List az)(vs:List Val)(e:Exp)(M s:az),¬modAt p M<0->(M,s)∈lD p f0->(∀x∈gm e,x∈gm (jm p (M,s)))->
  XR (· ∈lD p f0) (wG p f0) Val (aR p n (modAt p M) ns vs e):=by
 intro n
 induction n with
 |zero=>intro ns vs e M s _ _ _;exact jj _
 | succ n ih=>
  intro ns vs e M s hat hM hsub;have he:e∈gm (jm p (M,s)):=hsub e (by rw[qz];exact abm);have hkid:∀ns vs,∀x∈e.args,XR (· ∈lD p f0) (wG p f0) Val (aR p n (modAt p M) ns vs x):=fun ns vs x hx=>ih ns vs x M s hat hM fun y hy=>hsub y (by
   rw[qz];exact abb _ (acZ.2 ⟨x,hx,hy⟩))
  have hnth:∀ns vs (i:Nat),i<e.args.length->XR (· ∈lD p f0) (wG p f0) Val (aR p n (modAt p M) ns vs e.args[i]!):=fun ns vs i hi=>by
   rw[aaG e.args i hi];exact hkid ns vs _ (List.getElem_mem hi)
  show XR _ _ Val (jP p (aR p n) (modAt p M) ns vs e);refine DJ fun m=>(dA (fun _=>jj _) fun _=>(?_:XR _ _ Val _)) m;refine zx (fun m=>⟨fun c hc=>.inl hc,fun d hd=>.inl hd⟩) ?_;refine dA (fun _=>jj _) fun h1=>?_;have hlen:aE e.op≠-1->aE e.op=e.args.length:=fun h=>by
   by_cases h2:aE e.op=e.args.length
   ·exact h2
   ·exact absurd (.inr ⟨h,h2⟩) h1
  refine dA (fun _=>lx _) fun _=>?_;refine dA (fun _=>dA (fun _=>lx _) fun _=>jj _) fun _=>?_;refine dA (fun _=>?_) fun _=>?_
  ·split
   ·exact lx _
   ·exact jj _
  refine dA (fun ho=>?_) fun _=>?_
  ·have h2:aE e.op=2:=by unfold aE;rcases ho with h|h|h|h|h<;>simp[h]
   have:=hlen WD
   refine fP (hnth ns vs 0 WD) fun a=>fP (hnth ns vs 1 WD) fun b=>?_;unfold nr
   repeat' (first|exact lx _|exact jj _|refine dA (fun _=>?_) fun _=>?_)
  refine dA (fun ho=>?_) fun _=>?_
  ·have h2:aE e.op=2:=by unfold aE;rcases ho with h|h<;>simp[h]
   have:=hlen WD
   exact fP (wD (hnth ns vs 0 WD)) fun x=>dA (fun _=>lx _) fun _=>fP (wD (hnth ns vs 1 WD)) fun y=>lx _
  refine dA (fun ho=>?_) fun _=>?_
  ·have h2:aE e.op=1:=by unfold aE;simp[ho]
   have:=hlen WD
   exact fP (wD (hnth ns vs 0 WD)) fun x=>lx _
  refine dA (fun ho=>?_) fun _=>?_
  ·have h2:aE e.op=3:=by unfold aE;simp[ho]
   have:=hlen WD
   exact fP (wD (hnth ns vs 0 WD)) fun x=>dA (fun _=>hnth ns vs 1 WD) fun _=>hnth ns vs 2 WD
  refine dA (fun ho=>?_) fun _=>?_
  ·have h2:aE e.op=2:=by unfold aE;simp[ho]
   have:=hlen WD
   exact fP (hnth ns vs 0 WD) fun v=>hnth _ _ 1 WD
  refine dA (fun ho=>?_) fun _=>?_
  ·unfold im;refine dA (fun _=>dA (fun _=>fP (DK _ fun x hx=>hkid ns vs x hx) fun v=>dA (fun _=>lx _) fun _=>jj _) fun _=>jj _) fun _=>jj _
  refine dA (fun ho=>?_) fun _=>?_
  ·have h2:aE e.op=1:=by unfold aE;simp[ho]
   have:=hlen WD
   refine fP (hnth ns vs 0 WD) fun v=>?_;split
   ·exact dA (fun _=>lx _) fun _=>jj _
   ·exact jj _
  refine dA (fun ho=>?_) fun _=>?_
  ·-- a call
   unfold nL;have hat2:(if e.m=[]then modAt p M else modAt p e.m)=modAt p (uJ (M,s) e).1:=by
    unfold uJ;split<;>rfl
   simp only[hat2];cases hf:eu p (modAt p (uJ (M,s) e).1) e.s with
   |none=>exact jj _
   | some g=>
    simp only;have hf2:findR p (uJ (M,s) e)=some g:=by rw[<- hf,mi];rfl
    refine dA (fun hp=>dA (fun _=>fP (DK _ fun x hx=>hkid ns vs x hx) fun l=>?_) fun _=>jj _) fun _=>jj _;have hcB:sE p (M,s) e=true:=by
     unfold sE;rw[hf2,ho];simpa using hp
    have hT:uJ (M,s) e∈lD p f0:=wR hM (qx.2 ⟨e,he,hcB,rfl⟩);have hneg:¬modAt p (uJ (M,s) e).1<0:=fun h=>by
     unfold eu at hf;rw[aaH h]at hf;cases hf
    have hb:jm p (uJ (M,s) e)=g.body:=by unfold jm;rw[hf2];rfl
    exact Ey (s:=e.s) hT hf2 hneg fun ns vs=>ih ns vs g.body (uJ (M,s) e).1 e.s hneg hT fun x hx=>by
     have hte:((uJ (M,s) e).1,e.s)=uJ (M,s) e:=rfl;rw[hte,hb];exact hx
  refine dA (fun ho=>?_) fun hno=>?_
  ·have h2:aE e.op=1:=by unfold aE;simp[ho]
   have:=hlen WD
   unfold tW;refine fP (hnth ns vs 0 WD) fun v=>dA (fun _=>dA (fun hn=>?_) fun _=>jj _) fun _=>jj _;refine DJ fun m=>(zx (fun m'=>?_) (lx _)) m;refine⟨fun c hc=>.inl hc,fun d hd=>?_⟩;rcases aba.1 hd with h|h
   ·exact .inl h
   ·refine .inr ?_;rw[abF.1 h];refine⟨hn,?_⟩;have h3:=MA hM he;unfold Pv at h3;rw[aaH ho]at h3;have h4:BitVec.ofInt 64 e.n &&& 15#64=BitVec.ofInt 64 e.n:=by
     rcases hn with h|h|h|h<;>rw[h]<;>rfl
    rw[h4]at h3;exact h3
  ·unfold tP;refine dA (fun _=>jj _) fun _=>?_;simp only;refine dA (fun _=>jj _) fun _=>dA (fun ho=>?_) fun _=>?_
   ·have h2:aE e.op=1:=by unfold aE;simp[ho]
    have:=hlen WD
    exact fP (hnth ns vs 0 WD) fun v=>zx (fun m=>⟨fun c hc=>.inl hc,fun d hd=>.inl hd⟩) (lx _)
   ·exact DJ fun m=>(lx _) m
def Lo(p:List Mod)(M s:az)(args:List Val)(world:List Int)(fuel:Int):
  (∀c∈(fW p M s args world fuel).calls,(c.module,c.func)∈lD p (M,s))/\(∀d∈(fW p M s args world fuel).deeds,wG p (M,s) d.effect)/\((fW p M s args world fuel).err=0->(findR p (M,s)).isSome=true):=by
 have herr:∀e:Int,e≠0->(∀c∈(rB e).calls,(c.module,c.func)∈lD p (M,s))/\(∀d∈(rB e).deeds,wG p (M,s) d.effect)/\((rB e).err=0->(findR p (M,s)).isSome=true):=fun e he=>⟨fun c hc=>(by cases hc),fun d hd=>(by cases hd),fun h=>absurd h he⟩;unfold fW;cases hfr:eB p with
 |error e=>exact herr e (xQ hfr)
 | ok st=>
  simp only;unfold jr;by_cases h1:dD p≠0
  ·rw[aaH h1];exact herr _ h1
  ·rw [aaC h1];by_cases h2:fuel<0\/100000<fuel\/dB p st=false
   ·rw[aaH h2];exact herr _ Vc
   ·rw [aaC h2];cases hf:eu p (modAt p M) s with
    |none=>exact herr _ Vc
    | some f=>
     simp only;by_cases h3:args.length=f.params.length/\args.all (cb 4)=true
     ·rw[aaH h3];have hf2:findR p (M,s)=some f:=by rw[<- hf,mi]
      have hfs:(findR p (M,s)).isSome=true:=by rw[hf2];rfl
      have hM:=DZ hfs;have hneg:¬modAt p M<0:=fun h=>by
       unfold eu at hf;rw[aaH h]at hf;cases hf
      have hb:jm p (M,s)=f.body:=by unfold jm;rw[hf2];rfl
      have hx:=Ey (l:=args) (r:=aR p 100000) hM hf2 hneg fun ns vs=>Py 100000 ns vs f.body M s hneg hM (fun x hx=>by rw[hb];exact hx);have h4:=hx (aW world fuel (st.map (·.values)));refine⟨fun c hc=>?_,fun d hd=>?_,fun _=>hfs⟩
      ·have hc':c∈(bT p (aR p 100000) (modAt p M) f args (aW world fuel (st.map (·.values)))).st.calls:=by
        cases hr:bT p (aR p 100000) (modAt p M) f args (aW world fuel (st.map (·.values)))with
        |ok v m=>rw[hr]at hc;exact hc
        |er e m=>rw[hr]at hc;exact hc
       rcases h4.1 c hc' with h|h
       ·cases h
       ·exact h
      ·have hd':d∈(bT p (aR p 100000) (modAt p M) f args (aW world fuel (st.map (·.values)))).st.deeds:=by
        cases hr:bT p (aR p 100000) (modAt p M) f args (aW world fuel (st.map (·.values)))with
        |ok v m=>rw[hr]at hd;exact hd
        |er e m=>rw[hr]at hd;exact hd
       rcases h4.2 d hd' with h|h
       ·cases h
       ·exact h
     ·rw[aaC h3];exact herr _ Vc
def zW(a b:Int):Int:=if a<b then -1 else if b<a then 1 else 0
def Mv(v w:Ver):Int:=if v.a≠w.a then zW v.a w.a else if v.b≠w.b then zW v.b w.b else zW v.c w.c
def TO(x:Rng)(v:Ver):Bool:=decide (Mv x.lo v<=0)&&decide (Mv v x.hi<0)
def HC(l:List Rng)(v:Ver):Bool:=l.any fun x=>TO x v
def iD(s:Seen)(a:Adv):Option Fun:=match eu s.prog (modAt s.prog a.name) a.func with
 |none=>none
 |some f=>if(modAt s.prog a.name).toNat<s.vsns.length/\HC a.ranges (s.vsns[(modAt s.prog a.name).toNat]?.getD default)=true then some f else none
def fR(a:Adv):aA:=(a.name,a.func)
def gl(f:Fun)(a:Adv)(c:Call):Bool×Bool:=
 if c.module=a.name/\c.func=a.func/\c.args.length=f.params.length then(match mc a.cond (f.params.map (·.1)) c.args with
  |.ok v _=>if v.kind=1 then(v.n== 1,false)else(false,true)
  |.er _ _=>(false,true))
 else(false,false)
def sT{α:Type}(q:α->Bool):List α->Int->List Int
 |[],_=>[]
 |x:: l,k=>(if q x=true then[k]else[])++sT q l (k+1)
theorem E2{α:Type}{q:α->Bool}:∀ {l:List α} {k:Int},sT q l k=[]↔∀x∈l,q x=false
 |[],k=>by simp[sT]
 |x:: l,k=>by
  simp only[sT,List.append_eq_nil_iff,E2 (l:=l),aaT,forall_eq_or_imp]
  grind
def Es(s:Seen)(a:Adv):List Int:=match iD s a with
 |none=>[]
 |some f=>sT (fun c=>(gl f a c).1) s.calls 0
section
variable (U:List Mod->aA->List aA)
def iT(s:Seen)(a:Adv):List aA:=if(iD s a).isSome=true then U s.prog (fR a)else[]
def Qc(U:List Mod->aA->List aA)(s:Seen)(a:Adv)(f:Fun)(c:Call):Bool:=(gl f a c).2||(!f.pub&&decide ((c.module,c.func)∈iT U s a))
def gU(s:Seen)(a:Adv):Int:=match iD s a with
 |none=>0
 |some f=>if s.calls.any (fun c=>(gl f a c).1)=true then 2 else if iT U s a=[]then 0 else if s.whole=false then 1 else if s.calls.any (Qc U s a f)=true then 1 else 0
def O0(l:List Seen)(a:Adv):List Int:=sT (fun s=>!s.whole&&gU U s a== 1) l 0
end
def Md{s:Seen}{a:Adv}{f:Fun}(h:iD s a=some f):findR s.prog (fR a)=some f:=by
 unfold iD at h;rw[mi]at h;cases hf:findR s.prog (a.name,a.func)with
 |none=>grind
 |some g=>
  rw[hf]at h;simp only at h;split at h
  ·cases h;exact hf
  ·cases h
end Go.Av.Ap
namespace Go.Av.Ap
variable {h h':Hp}{α β:Type}
theorem bM{m:M α}{f:α->M β}{a:α}(e:m h= .ok a h'):ah m f h=f a h':=by simp only[ah,e]
def IQ{m:M α}{f:α->M β}{v:AV}(e:m h= .pan v h'):ah m f h= .pan v h':=by simp only[ah,e]
def bw(l:List Val):List AV:=l.flatMap fun v=>ab v.av
theorem lL(l:List Val):(bw l).length=l.length*4:=by
 induction l with
 |nil=>rfl
 |cons v l ih=>simp only[bw,abZ,abh]at ih |-;rw[ih];simp;omega
variable {l:List Val}
def pe{k:Nat}(h:k<l.length):((bw l).drop (k*4)).take 4=ab (l[k]).av:=by
 induction l generalizing k with
 |nil=>simp at h
 | cons v l ih=>
  cases k with
  |zero=>simp[bw]
  |succ k=>
   have:=ih (k:=k) (by simpa using h)
   simp only[bw,abZ]at this |-;have e:(k+1)*4=(ab v.av).length+k*4:=by simp;omega
   rw[e,ac1,List.getElem_cons_succ]
   grind [List.drop_of_length_le]
def DF{k:Nat}(h:k<l.length)(v:Val):setCells (bw l) (k*4) (ab v.av)=bw (l.set k v):=by
 induction l generalizing k with
 |nil=>simp at h
 | cons w l ih=>
  cases k with
  |zero=>
   simp only[setCells,bw,abZ,adj,abu,aaU,List.set_cons_zero];simp_all
  |succ k=>
   have:=ih (k:=k) (by simpa using h)
   simp only[setCells,bw,abZ,List.set_cons_succ]at this |-;have e:(k+1)*4=(ab w.av).length+k*4:=by simp;omega
   have e2:(ab w.av).length+k*4+(ab v.av).length-(ab w.av).length=k*4+(ab v.av).length:=WD
   simp_all
def eE(l:List Deed):List AV:=l.flatMap fun d=>[qi d.effect,qi d.arg,qi d.answer]
def zE(tag:Nat->Nat)(k:Nat)(h:Hp)(l:List Val)(v:AV):Prop:=(v=vals l\/l=[]/\v= .he)\/∃r,v= .hs r 0 l.length 4 true/\tag r=k/\h[r]? = some (bw l)
def gO(tag:Nat->Nat)(h:Hp):List Call->List AV->Prop
 |[],cs=>cs=[]
 |c:: l,cs=>∃av rest,cs= .str c.module:: .str c.func:: av:: rest/\zE tag 4 h c.args av/\gO tag h l rest
def da(tag:Nat->Nat)(h:Hp):Nat->List az->List (List Val)->List AV->Prop
 |_,[],[],cs=>cs=[]
 |i,n:: ns,l:: st,cs=>∃av rest,cs= .str n:: av:: rest/\((l=[]/\(av= .sl []\/av= .he))\/∃r,av= .hs r 0 l.length 4 true/\tag r=6+i/\h[r]? = some (bw l))/\da tag h (i+1) ns st rest
 |_,_,_,_=>False
def IF(tag:Nat->Nat)(k sz n:Nat)(cells:List AV->Prop)(v:AV)(h:Hp):Prop:=(n=0/\v= .hn)\/∃q cs,v= .hs q 0 n sz true/\0<n/\tag q=k/\h[q]? = some cs/\cs.length=n*sz/\cells cs
structure SNm where
 names:List az
 sv:AV
 cells:List AV
 told:Bool
structure RepT (row:Ms->AV->AV->AV->List AV) (nm:SNm) (tag:Nat->Nat) (dv cv sv:AV) (m:Ms) (h:Hp):Prop where
 r0:h[0]? = some (row m dv cv sv)
 t0:tag 0=0
 ds:IF tag 2 3 m.deeds.length (fun cs=>cs=eE m.deeds) dv h
 cs:IF tag 3 3 m.calls.length (fun cs=>gO tag h m.calls cs) cv h
 st:IF tag 5 2 m.state.length (fun cs=>cs=nm.cells/\da tag h 0 nm.names m.state cs) sv h
 sve:sv=nm.sv
 wok:nm.told=true->m.world=[]
def Rep(row:Ms->AV->AV->AV->List AV)(nm:SNm)(m:Ms)(h:Hp):Prop:=∃tag dv cv sv,RepT row nm tag dv cv sv m h
def Kp(tag tag':Nat->Nat)(ks:Nat->Prop)(h h':Hp):Prop:=∀r cs,h[r]? = some cs->¬ks (tag r)->h'[r]? = some cs/\tag' r=tag r
variable {tag':Nat->Nat}{ks:Nat->Prop}
def zE.keep{tag:Nat->Nat}(K:Kp tag tag' ks h h'){k:Nat}(hk:¬ks k){v:AV}(H:zE tag k h l v):zE tag' k h' l v:=by
 rcases H with H|⟨r,h1,h2,h3⟩
 ·exact .inl H
 ·have:=K r _ h3 qr
  exact .inr ⟨r,h1,this.2.trans h2,this.1⟩
theorem gO.keep{tag:Nat->Nat}(K:Kp tag tag' ks h h')(hk:¬ks 4):{l:List Call} ->{cs:List AV} ->gO tag h l cs->gO tag' h' l cs
 |[],_,H=>H
 |_:: _,_,⟨av,rest,h1,h2,h3⟩=>⟨av,rest,h1,h2.keep K hk,h3.keep K hk⟩
theorem da.keep{tag:Nat->Nat}(K:Kp tag tag' ks h h')(hk:∀i,¬ks (6+i)):{i:Nat} ->{nm:List az} ->{st:List (List Val)} ->{cs:List AV} ->da tag h i nm st cs->da tag' h' i nm st cs
 |_,[],[],_,H=>H
 | i,_:: _,_:: _,_,⟨av,rest,h1,h2,h3⟩=>⟨av,rest,h1,by
   rcases h2 with h2|⟨r,g1,g2,g3⟩
   ·exact .inl h2
   ·have:=K r _ g3 qr
    grind,da.keep K hk h3⟩
 |_,[],_:: _,_,H=>H.elim
 |_,_:: _,[],_,H=>H.elim
def IF.keep{tag:Nat->Nat}(K:Kp tag tag' ks h h'){k sz n:Nat}{c c':List AV->Prop}{v:AV}(hk:¬ks k)(hc:∀cs,c cs->c' cs)(H:IF tag k sz n c v h):IF tag' k sz n c' v h':=by
 rcases H with H|⟨q,cs,h1,h2,h3,h4,h5,h6⟩
 ·exact .inl H
 ·have:=K q _ h4 qr
  exact .inr ⟨q,cs,h1,h2,this.2.trans h3,this.1,h5,hc _ h6⟩
variable {cv dv sv:AV}{nm:SNm}
def RepT.set0{row:Ms->AV->AV->AV->List AV}{tag:Nat->Nat}{m m':Ms}(R:RepT row nm tag dv cv sv m h)(h1:m'.deeds=m.deeds)(h2:m'.calls=m.calls)(h3:m'.state=m.state)(h4:m.world=[]->m'.world=[]):
  RepT row nm tag dv cv sv m' (h.set 0 (row m' dv cv sv)):=by
 have hlt:0<h.length:=(aaJ.1 R.r0).1;have K:Kp tag tag (fun k=>k=0) h (h.set 0 (row m' dv cv sv)):=fun r cs hr hk=>by
  have:r≠0:=fun e=>hk (by rw[e];exact R.t0)
  grind
 refine⟨qr,R.t0,?_,?_,?_,R.sve,fun t=>h4 (R.wok t)⟩
 ·rw[h1];exact R.ds.keep K Vc fun _ h=>h
 ·rw[h2];exact R.cs.keep K Vc fun _ h=>h.keep K Vc
 ·rw[h3];exact R.st.keep K Vc fun _ h=>⟨h.1,h.2.keep K WD⟩
def RepT.more{row:Ms->AV->AV->AV->List AV}{tag:Nat->Nat}{m:Ms}(R:RepT row nm tag dv cv sv m h)(x:List AV)(k:Nat):
  RepT row nm (fun i=>if i=h.length then k else tag i) dv cv sv m (h++[x])/\Kp tag (fun i=>if i=h.length then k else tag i) (fun _=>False) h (h++[x]):=by
 have K:Kp tag (fun i=>if i=h.length then k else tag i) (fun _=>False) h (h++[x]):=fun r cs hr _=>by
  grind
 exact⟨⟨(K 0 _ R.r0 id).1,(K 0 _ R.r0 id).2.trans R.t0,R.ds.keep K id fun _ h=>h,R.cs.keep K id fun _ h=>h.keep K id,R.st.keep K id fun _ h=>⟨h.1,h.2.keep K (fun _=>id)⟩,R.sve,R.wok⟩,K⟩
def aag{tag:Nat->Nat}{q:Nat}{k:Nat}(hq:tag q=k)(x:List AV):Kp tag tag (fun j=>j=k) h (h.set q x):=fun r cs hr hk=>by
 grind
variable {cs:List AV}{t:Nat}{ti:TI}
def dX{T:TT}(ht:T t=some ti)(ha:ti.agg=false){l k:Nat}{v:AV}(h0:h[l]? = some cs)(h1:cs[k]? = some v):bC T t (.hp l k) h= .ok v h:=by
 simp[bC,ht,h0,ha,h1]
def ut{T:TT}(ht:T t=some ti)(ha:ti.agg=true){l k:Nat}(h0:h[l]? = some cs)(hle:k+ti.size<=cs.length):bC T t (.hp l k) h= .ok (.agg ((cs.drop k).take ti.size)) h:=by
 simp[bC,ht,h0,ha,hle]
def gD{T:TT}(ht:T t=some ti){l k:Nat}{v:AV}(h0:h[l]? = some cs)(hv:cq ti.size v=true)(hle:k+ti.size<=cs.length)(hp:0<ti.size):
  cp T t (.hp l k) v h= .ok (.tup []) (h.set l (setCells cs k (ab v))):=by
 simp[cp,ht,h0,hv,hle,hp]
variable {ei:TI}
def L3{T:TT}{e:Nat}(ht:T t=some ti)(hk:ti.kind= .slice e)(he:T e=some ei){x:AV}(hx:cq ei.size x=true)(hb:0<ei.bytes)(hs:0<ei.size)(hc:ei.bytes<=140737488355328)(h:Hp):
  appH T t false .hn (.sl [x]) h= .ok (.hs h.length 0 1 ei.size ei.agg) (h++[ab x]):=by
 simp_all[dR,appH,jp,ll]
def L4{T:TT}{e:Nat}(ht:T t=some ti)(hk:ti.kind= .slice e)(he:T e=some ei){x:AV}(hx:cq ei.size x=true)(hb:0<ei.bytes)(hs:0<ei.size){q n:Nat}(h0:h[q]? = some cs)(hok:cs.all aG=true)(hl:cs.length=n*ei.size)(hn:0<n)(hc:(n+1)*ei.bytes<=140737488355328):appH T t false (.hs q 0 n ei.size ei.agg) (.sl [x]) h= .ok (.hs h.length 0 (n+1) ei.size ei.agg) ((h.set q [])++[cs++ab x]):=by
 have h1:dR ei.size [x]=true:=by simp[dR,hx]
 have h2:List.all cs aG=true:=hok;simp only[appH,ht,hk,he,jp,h1,hb,hs,ll,h0,h2,hl,hn,abj,acC,aaF,abU,abS,List.isEmpty_cons,aaM,abZ,List.flatMap_nil,abr]
 grind [Nat.mul_pos]
theorem uX{T:TT}{e:Nat}(ht:T t=some ti)(hk:ti.kind= .slice e)(he:T e=some ei)(h4:ei.size=4)(hag:ei.agg=true)(hb:0<ei.bytes)(call:FuncId->List AV->M AV)(l:List Val)(hc:l.length*ei.bytes<=140737488355328)(h:Hp):
  dZ T t call [vals l] h=if l=[]then .ok (vals []) h else .ok (.hs h.length 0 l.length 4 true) (h++[bw l]):=by
 have h1:dR 4 (gI l)=true:=Lb l;have hlen:(gI l).length=l.length:=by simp[fG]
 have hfl:(gI l).flatMap ab=bw l:=by simp[fG,bw,List.flatMap_map]
 cases l with
 |nil=>simp_all[dZ,appH,jp,ll,vals,dR]
 |cons v l=>
  have hne:(gI (v:: l)).isEmpty=false:=rfl;unfold dZ vals appH;simp only[ht,hk,he,jp,h4,h1,hb,ll,abj,acC,abN,aaF,hne,aaM,hlen,hfl,hag]
  grind
theorem gO.ok{tag:Nat->Nat}:{l:List Call} ->{cs:List AV} ->gO tag h l cs->cs.all aG=true/\cs.length=l.length*3
 |[],cs,H=>by cases H;grind
 | c:: l,_,⟨av,rest,h1,h2,h3⟩=>by
  subst h1;obtain⟨g1,g2⟩:=h3.ok;have:aG av=true:=by
   rcases h2 with(rfl|⟨_,rfl⟩)|⟨r,rfl,_⟩<;>rfl
  refine⟨?_,qr⟩;rw[abf,abf,abf,this,g1];rfl
theorem gO.snoc{tag:Nat->Nat}{c:Call}{av:AV}(ha:zE tag 4 h c.args av):{l:List Call} ->{cs:List AV} ->gO tag h l cs->gO tag h (l++[c]) (cs++[.str c.module,.str c.func,av])
 |[],cs,H=>by cases H;exact⟨av,[],rfl,ha,rfl⟩
 |d:: l,_,⟨av',rest,h1,h2,h3⟩=>⟨av',rest++[.str c.module,.str c.func,av],by rw[h1];rfl,h2,gO.snoc ha h3⟩
def Cr(l:List Deed):(eE l).all aG=true:=by simp[eE,aG]
theorem da.at{tag:Nat->Nat}:{i:Nat} ->{nm:List az} ->{st:List (List Val)} ->{cs:List AV} ->da tag h i nm st cs->∀(j:Nat)(l:List Val),st[j]? = some l->
  ∃av,cs[j*2+1]? = some av/\((l=[]/\(av= .sl []\/av= .he))\/∃r,av= .hs r 0 l.length 4 true/\tag r=6+(i+j)/\h[r]? = some (bw l))
 |_,[],[],_,_,j,l,hj=>by simp at hj
 | i,_:: _,_:: _,_,⟨av,rest,h1,h2,h3⟩,j,l,hj=>by
  subst h1;cases j with
  |zero=>grind
  |succ j=>
   obtain⟨av',g1,g2⟩:=h3.at j l (by simpa using hj)
   grind
 |_,[],_:: _,_,H,_,_,_=>H.elim
 |_,_:: _,[],_,H,_,_,_=>H.elim
theorem da.len{tag:Nat->Nat}:{i:Nat} ->{nm:List az} ->{st:List (List Val)} ->{cs:List AV} ->da tag h i nm st cs->nm.length=st.length
 |_,[],[],_,_=>rfl
 |_,_:: _,_:: _,_,⟨_,_,_,_,h3⟩=>by simp[h3.len]
 |_,[],_:: _,_,H=>H.elim
 |_,_:: _,[],_,H=>H.elim
theorem da.set{tag:Nat->Nat}{r k:Nat}{v:Val}:{i:Nat} ->{nm:List az} ->{st:List (List Val)} ->{cs:List AV} ->da tag h i nm st cs->∀(j:Nat)(l:List Val),st[j]? = some l->tag r=6+(i+j)->h[r]? = some (bw l)->cs[j*2+1]? = some (.hs r 0 l.length 4 true)->
  k<l.length->da tag (h.set r (bw (l.set k v))) i nm (setSt st j k v) cs
 |_,[],[],_,_,j,l,hj,_,_,_,_=>by simp at hj
 | i, n:: ns,l0:: st,_,⟨av,rest,h1,h2,h3⟩,j,l,hj,ht,hr,hc,hk=>by
  subst h1;have hlt:r<h.length:=(aaJ.1 hr).1;cases j with
  | zero=>
   simp only[aa4,aaB]at hj;subst hj;simp only[adj,aa7,abB,aa4,aaB]at hc;have e:setSt (l0:: st) 0 k v=l0.set k v:: st:=by simp[setSt]
   rw[e];refine⟨av,rest,rfl,.inr ⟨r,qr,ht,abk hlt⟩,?_⟩;have K:Kp tag tag (fun t=>t=6+i) h (h.set r (bw (l0.set k v))):=aag (by rw[ht];rfl) _;have key:∀ {i':Nat} {nm':List az} {st':List (List Val)} {cs':List AV},i<i'->da tag h i' nm' st' cs'->da tag (h.set r (bw (l0.set k v))) i' nm' st' cs':=by
    intro i' nm' st'
    induction st' generalizing i' nm' with
    |nil=>intro cs' hi H;cases nm' with
     |nil=>exact H
     |cons _ _=>exact H.elim
    | cons a st' ih=>intro cs' hi H;cases nm' with
     |nil=>exact H.elim
     |cons b nm'=>
      obtain⟨av2,rest2,k1,k2,k3⟩:=H;refine⟨av2,rest2,k1,?_,ih WD k3⟩
      grind
   grind
  | succ j=>
   have e:setSt (l0:: st) (j+1) k v=l0:: setSt st j k v:=by simp[setSt]
   rw[e];have hc':rest[j*2+1]? = some (.hs r 0 l.length 4 true):=by
    rw[show (j+1)*2+1=j*2+1+2 by omega]at hc;simpa using hc
   refine⟨av,rest,rfl,?_,h3.set j l (by simpa using hj) (by rw[ht];omega) hr hc' hk⟩
   grind
 |_,[],_:: _,_,H,_,_,_,_,_,_,_=>H.elim
 |_,_:: _,[],_,H,_,_,_,_,_,_,_=>H.elim
variable {h1:Hp}
def Kp.trans{a b c:Nat->Nat}{js:Nat->Prop}{h2:Hp}(K:Kp a b ks h h1)(J:Kp b c js h1 h2):Kp a c (fun k=>ks k\/js k) h h2:=fun r cs hr hk=>by
 obtain⟨k1,k2⟩:=K r cs hr fun h=>hk (.inl h);obtain⟨j1,j2⟩:=J r cs k1 fun h=>hk (.inr (by rwa [k2]at h))
 grind
def Kp.new(tag:Nat->Nat)(h:Hp)(x:List AV)(k:Nat):Kp tag (fun i=>if i=h.length then k else tag i) (fun _=>False) h (h++[x]):=fun r cs hr _=>by
 grind
theorem Kp.mono{a b:Nat->Nat}{js:Nat->Prop}(K:Kp a b ks h h1)(hj:∀k,ks k->js k):Kp a b js h h1:=fun r cs hr hk=>K r cs hr fun h=>hk (hj _ h)
def yP{T:TT}{e:Nat}(ht:T t=some ti)(hk:ti.kind= .slice e)(he:T e=some ei){sz:Nat}(h3:ei.size=sz)(hsz:0<sz)(hag:ei.agg=true)(hb:0<ei.bytes){tag:Nat->Nat}{k n:Nat}{P:List AV->Prop}{v x:AV}(H:IF tag k sz n P v h)(hP0:n=0->P [])(hok:∀cs,P cs->cs.all aG=true)(hx:cq sz x=true)(hc:(n+1)*ei.bytes<=140737488355328):
  ∃h1 v' tag',appH T t false v (.sl [x]) h= .ok v' h1/\Kp tag tag' (fun j=>j=k) h h1/\IF tag' k sz (n+1) (fun cs'=>∃cs,P cs/\cs'=cs++ab x) v' h1/\aG v'=true:=by
 have hxl:(ab x).length=sz:=by
  unfold cq at hx;simp only[aaD,aa9]at hx;have h1:=hx.1;cases x<;>simp only[df,aaB,reduceCtorEq]at h1<;>simp only[ab,abS]<;>exact h1
 have hx':cq ei.size x=true:=by rw[h3];exact hx
 rcases H with⟨hn,rfl⟩|⟨q,cs,rfl,hn,hq,hcs,hl,hp⟩
 ·subst hn;refine⟨_,_,_,L3 ht hk he hx' hb WD WD h,(Kp.new tag h (ab x) k).mono fun _ h=>h.elim,.inr ⟨h.length,ab x,by rw[h3,hag],WD,AI,AI,by simpa using hxl,[],hP0 rfl,rfl⟩,rfl⟩
 ·have e1:=L4 ht hk he hx' hb WD hcs (hok cs hp) qr hn hc;rw[h3,hag]at e1;have K1:Kp tag tag (fun j=>j=k) h (h.set q []):=aag hq [];have K2:=Kp.new tag (h.set q []) (cs++ab x) k;refine⟨_,_,_,e1,(K1.trans K2).mono fun j h=>h.elim id False.elim,.inr ⟨h.length,cs++ab x,rfl,WD,AI,?_,qr,cs,hp,rfl⟩,rfl⟩
  grind
def RepT.pushDeed{row:Ms->AV->AV->AV->List AV}{nm:SNm}{tag tag':Nat->Nat}{dv dv' cv sv:AV}{m m':Ms}{h h1:Hp}{d:Deed}(R:RepT row nm tag dv cv sv m h)(K:Kp tag tag' (fun j=>j=2) h h1)(H:IF tag' 2 3 (m.deeds.length+1) (fun cs'=>∃cs,cs=eE m.deeds/\cs'=cs++ab d.av) dv' h1)(hd:m'.deeds=m.deeds++[d])(hc:m'.calls=m.calls)(hs:m'.state=m.state)(h4:m.world=[]->m'.world=[]):RepT row nm tag' dv' cv sv m' (h1.set 0 (row m' dv' cv sv)):=by
 obtain⟨k1,k2⟩:=K 0 _ R.r0 (by rw[R.t0];decide);have hlt:0<h1.length:=(aaJ.1 k1).1;have t0:=k2.trans R.t0;have K0:Kp tag' tag' (fun j=>j=0) h1 (h1.set 0 (row m' dv' cv sv)):=aag t0 _;refine⟨abk hlt,t0,?_,?_,?_,R.sve,fun t=>h4 (R.wok t)⟩
 ·rw[hd,abh];refine H.keep K0 Vc ?_;rintro cs' ⟨cs,rfl,rfl⟩;show eE m.deeds++[AV.int .i64 d.effect,.int .i64 d.arg,.int .i64 d.answer]=_;simp[eE]
 ·rw[hc];exact (R.cs.keep K (c':=gO tag' h1 m.calls) Vc fun _ h=>h.keep K Vc).keep K0 Vc fun _ h=>h.keep K0 Vc
 ·rw[hs];exact (R.st.keep K (c':=fun cs=>cs=nm.cells/\da tag' h1 0 nm.names m.state cs) Vc fun _ h=>⟨h.1,h.2.keep K WD⟩).keep K0 Vc fun _ h=>⟨h.1,h.2.keep K0 WD⟩
def RepT.pushCall{row:Ms->AV->AV->AV->List AV}{tag:Nat->Nat}{cv':AV}{m m':Ms}{c:Call}{av:AV}(R:RepT row nm tag dv cv sv m h)(K:Kp tag tag' (fun j=>j=3) h h1)(ha:zE tag 4 h c.args av)(H:IF tag' 3 3 (m.calls.length+1) (fun cs'=>∃cs,gO tag h m.calls cs/\cs'=cs++[.str c.module,.str c.func,av]) cv' h1)(hd:m'.deeds=m.deeds)(hc:m'.calls=m.calls++[c])(hs:m'.state=m.state)(h4:m.world=[]->m'.world=[]):RepT row nm tag' dv cv' sv m' (h1.set 0 (row m' dv cv' sv)):=by
 obtain⟨k1,k2⟩:=K 0 _ R.r0 (by rw[R.t0];decide);have hlt:0<h1.length:=(aaJ.1 k1).1;have t0:=k2.trans R.t0;have K0:Kp tag' tag' (fun j=>j=0) h1 (h1.set 0 (row m' dv cv' sv)):=aag t0 _;refine⟨abk hlt,t0,?_,?_,?_,R.sve,fun t=>h4 (R.wok t)⟩
 ·rw[hd];exact (R.ds.keep K (c':=fun cs=>cs=eE m.deeds) Vc fun _ h=>h).keep K0 Vc fun _ h=>h
 ·rw[hc,abh];refine H.keep K0 Vc ?_;rintro cs' ⟨cs,hcs,rfl⟩;exact ((hcs.keep K Vc).snoc (ha.keep K Vc)).keep K0 Vc
 ·rw[hs];exact (R.st.keep K (c':=fun cs=>cs=nm.cells/\da tag' h1 0 nm.names m.state cs) Vc fun _ h=>⟨h.1,h.2.keep K WD⟩).keep K0 Vc fun _ h=>⟨h.1,h.2.keep K0 WD⟩
def RepT.var{row:Ms->AV->AV->AV->List AV}{tag:Nat->Nat}{m:Ms}(R:RepT row nm tag dv cv sv m h)(hrow:∀st,row { m with state:=st } dv cv sv=row m dv cv sv){i:Nat}(hl:m.state[i]? = some l)(hne:l≠[]):
  ∃q r,nm.sv= .hs q 0 m.state.length 2 true/\h[q]? = some nm.cells/\nm.cells[i*2+1]? = some (.hs r 0 l.length 4 true)/\nm.cells.length=m.state.length*2/\h[r]? = some (bw l)/\
   ∀(k:Nat)(v:Val),k<l.length->RepT row nm tag dv cv sv { m with state:=setSt m.state i k v } (h.set r (bw (l.set k v))):=by
 have hi:i<m.state.length:=(aaJ.1 hl).1;rcases R.st with⟨h0,_⟩|⟨q,cs,h1,h2,h3,h4,h5,rfl,h6⟩
 ·omega
 ·obtain⟨av,g1,g2⟩:=h6.at i l hl;rcases g2 with⟨g2,_⟩|⟨r,rfl,g3,g4⟩
  ·grind
  ·rw[aa7]at g3;refine⟨q,r,by rw[<- R.sve,h1],h4,g1,h5,g4,fun k v hk=>?_⟩;have K:Kp tag tag (fun j=>j=6+i) h (h.set r (bw (l.set k v))):=aag g3 _;refine⟨?_,R.t0,?_,?_,?_,R.sve,R.wok⟩
   ·rw[hrow];exact (K 0 _ R.r0 (by rw[R.t0];omega)).1
   ·exact R.ds.keep K WD fun _ h=>h
   ·exact R.cs.keep K WD fun _ h=>h.keep K WD
   ·right;have hq:r≠q:=fun e=>qr
    refine⟨q,nm.cells,by rw[h1];simp[setSt],by simpa [setSt]using h2,h3,qr,by simpa [setSt]using h5,rfl,?_⟩;exact h6.set i l hl qr g4 g1 hk
theorem da.snoc{tag:Nat->Nat}{n:az}{av:AV}:{i:Nat} ->{nm:List az} ->{st:List (List Val)} ->{cs:List AV} ->da tag h i nm st cs->
  ((l=[]/\(av= .sl []\/av= .he))\/∃r,av= .hs r 0 l.length 4 true/\tag r=6+(i+st.length)/\h[r]? = some (bw l))->da tag h i (nm++[n]) (st++[l]) (cs++[.str n,av])
 |i,[],[],cs,H,ha=>by
  have H':cs=[]:=H;subst H';exact⟨av,[],rfl,ha,rfl⟩
 |i,_:: _,l0:: st,_,⟨av',rest,h1,h2,h3⟩,ha=>by
  refine⟨av',rest++[.str n,av],by rw[h1];rfl,h2,h3.snoc ?_⟩
  grind
 |_,[],_:: _,_,H,_=>H.elim
 |_,_:: _,[],_,H,_=>H.elim
theorem da.ok{tag:Nat->Nat}:{i:Nat} ->{nm:List az} ->{st:List (List Val)} ->{cs:List AV} ->da tag h i nm st cs->cs.all aG=true
 |_,[],[],cs,H=>by
  have H':cs=[]:=H
  grind
 | _,_:: _,_:: _,_,⟨av,rest,h1,h2,h3⟩=>by
  subst h1;have:aG av=true:=by
   rcases h2 with⟨_,rfl|rfl⟩|⟨r,rfl,_⟩<;>rfl
  rw[abf,abf,this,h3.ok];rfl
 |_,[],_:: _,_,H=>H.elim
 |_,_:: _,[],_,H=>H.elim
def RepT.pushState{row:Ms->AV->AV->AV->List AV}{tag:Nat->Nat}{sv':AV}{m:Ms}{n:az}{av:AV}(R:RepT row nm tag dv cv sv m h)(K:Kp tag tag' (fun j=>j=5) h h1)(ha:(l=[]/\(av= .sl []\/av= .he))\/∃r,av= .hs r 0 l.length 4 true/\tag r=6+m.state.length/\h[r]? = some (bw l))(H:IF tag' 5 2 (m.state.length+1) (fun cs'=>∃cs,(cs=nm.cells/\da tag h 0 nm.names m.state cs)/\cs'=cs++[.str n,av]) sv' h1):
  RepT row ⟨nm.names++[n],sv',nm.cells++[.str n,av],nm.told⟩ tag' dv cv sv' { m with state:=m.state++[l] } (h1.set 0 (row { m with state:=m.state++[l] } dv cv sv')):=by
 obtain⟨k1,k2⟩:=K 0 _ R.r0 (by rw[R.t0];decide);have hlt:0<h1.length:=(aaJ.1 k1).1;have t0:=k2.trans R.t0;have K0:Kp tag' tag' (fun j=>j=0) h1 (h1.set 0 (row { m with state:=m.state++[l] } dv cv sv')):=aag t0 _;refine⟨abk hlt,t0,?_,?_,?_,rfl,R.wok⟩
 ·exact (R.ds.keep K (c':=fun cs=>cs=eE m.deeds) Vc fun _ h=>h).keep K0 Vc fun _ h=>h
 ·exact (R.cs.keep K (c':=gO tag' h1 m.calls) Vc fun _ h=>h.keep K Vc).keep K0 Vc fun _ h=>h.keep K0 Vc
 ·simp only[abh,abS];refine H.keep K0 Vc ?_;rintro cs' ⟨cs,⟨rfl,hcs⟩,rfl⟩;refine⟨rfl,?_⟩;have h2:=hcs.snoc (n:=n) (l:=l) (av:=av) qr;exact (h2.keep K WD).keep K0 WD
def Hv(d:Nat)(h:Hp):Nat->Nat->Nat->Nat->Bool->AV:=fun l off len sz ag=>match h[l]? with
 | some cs=>bif decide (off+len*sz<=cs.length)&&decide (0<sz)&&(ag||(Nat.beq sz 1&&cs.all aG))then
   .sl ((List.range len).map fun i=>jd d h (bif ag then .agg ((cs.drop (off+i*sz)).take sz)else aa cs (off+i*sz)))else .any
 |none=>.any
theorem nS(d:Nat)(h:Hp)(a:AV):jd (d+1) h a=cl (Hv d h) a:=rfl
def oq{l:List α}{f:Nat->β}{g:α->β}(h:∀i x,l[i]? = some x->f i=g x):(List.range l.length).map f=l.map g:=by
 apply abY
 grind
variable {d:Nat}
def sO{q n sz:Nat}(h0:h[q]? = some cs)(hl:cs.length=n*sz)(hz:0<sz):Hv d h q 0 n sz true= .sl ((List.range n).map fun i=>jd d h (.agg ((cs.drop (i*sz)).take sz))):=by
 simp_all[Hv]
def PI(d:Nat)(h:Hp)(v:Val):jd d h v.av=v.av:=by
 cases d with
 |zero=>exact Cm _ v
 |succ d=>exact Cm _ v
def EP{r:Nat}(h0:h[r]? = some (bw l)):Hv d h r 0 l.length 4 true=vals l:=by
 rw[sO h0 (lL l) Vc];unfold vals;rw[fG];congr 1;refine oq fun i v hv=>?_;have hi:=(aaJ.1 hv).1;rw[pe hi,(aaJ.1 hv).2];have:AV.agg (ab v.av)=v.av:=AI
 rw[this,PI]
def Tg{tag:Nat->Nat}{k:Nat}{av:AV}(H:zE tag k h l av):cl (Hv d h) av=vals l:=by
 rcases H with(rfl|⟨rfl,rfl⟩)|⟨r,rfl,_,h0⟩
 ·simp_all
 ·rfl
 ·exact EP h0
theorem gO.at{tag:Nat->Nat}:{l:List Call} ->{cs:List AV} ->gO tag h l cs->∀(i:Nat)(c:Call),l[i]? = some c->∃av,(cs.drop (i*3)).take 3=[.str c.module,.str c.func,av]/\zE tag 4 h c.args av
 |[],_,_,i,c,hc=>by simp at hc
 | d:: l,_,⟨av,rest,h1,h2,h3⟩,i,c,hc=>by
  subst h1;cases i with
  |zero=>grind
  |succ i=>
   obtain⟨av',g1,g2⟩:=h3.at i c (by simpa using hc)
   grind
def KD{tag:Nat->Nat}{l:List Call}{v:AV}(H:IF tag 3 3 l.length (fun cs=>gO tag h l cs) v h):cl (Hv (d+1) h) v=calls l:=by
 rcases H with⟨h0,rfl⟩|⟨q,cs,rfl,_,_,h4,h5,h6⟩
 ·have:l=[]:=aaO h0;subst this;rfl
 ·show Hv (d+1) h q 0 l.length 3 true=_;rw[sO h4 h5 Vc];unfold calls;congr 1;refine oq fun i c hc=>?_;obtain⟨av,g1,g2⟩:=h6.at i c hc;rw[g1,nS];show AV.agg [.str c.module,.str c.func,cl (Hv d h) av]=_;rw[Tg g2];rfl
def Cq{l:List Deed}{i:Nat}{d:Deed}(h:l[i]? = some d):((eE l).drop (i*3)).take 3=[.int .i64 d.effect,.int .i64 d.arg,.int .i64 d.answer]:=by
 induction l generalizing i with
 |nil=>simp at h
 | cons x l ih=>
  cases i with
  |zero=>simp at h;subst h;simp[eE]
  |succ i=>
   grind [eE]
def KE{d:Nat}{tag:Nat->Nat}{h:Hp}{l:List Deed}{v:AV}(H:IF tag 2 3 l.length (fun cs=>cs=eE l) v h):cl (Hv (d+1) h) v=deeds l:=by
 rcases H with⟨h0,rfl⟩|⟨q,cs,rfl,_,_,h4,h5,rfl⟩
 ·have:l=[]:=aaO h0;subst this;rfl
 ·show Hv (d+1) h q 0 l.length 3 true=_;simp_all[sO,deeds,oq,Cq,nS]
theorem da.at2{tag:Nat->Nat}:{i:Nat} ->{nm:List az} ->{st:List (List Val)} ->{cs:List AV} ->da tag h i nm st cs->∀(j:Nat)(x:Vars),(List.zipWith Vars.mk nm st)[j]? = some x->
  ∃av,(cs.drop (j*2)).take 2=[.str x.module,av]/\((x.values=[]/\(av= .sl []\/av= .he))\/∃r,av= .hs r 0 x.values.length 4 true/\h[r]? = some (bw x.values))
 |_,[],[],_,_,j,x,hx=>by simp at hx
 | i,n:: ns,l:: st,_,⟨av,rest,h1,h2,h3⟩,j,x,hx=>by
  subst h1;cases j with
  |zero=>
   grind
  |succ j=>
   obtain⟨av',g1,g2⟩:=h3.at2 j x (by simpa using hx)
   grind
 |_,[],_:: _,_,H,_,_,_=>H.elim
 |_,_:: _,[],_,H,_,_,_=>H.elim
def Hz{tag:Nat->Nat}{nm:List az}{c0:List AV}{st:List (List Val)}{v:AV}(H:IF tag 5 2 st.length (fun cs=>cs=c0/\da tag h 0 nm st cs) v h):cl (Hv (d+1) h) v=dP (List.zipWith Vars.mk nm st):=by
 rcases H with⟨h0,rfl⟩|⟨q,cs,rfl,_,_,h4,h5,_,h6⟩
 ·have:st=[]:=aaO h0;subst this;cases nm<;>rfl
 ·have hl:(List.zipWith Vars.mk nm st).length=st.length:=by simp[h6.len]
  show Hv (d+1) h q 0 st.length 2 true=_;rw[sO h4 h5 Vc,<- hl];unfold dP;congr 1;refine oq fun i c hc=>?_;obtain⟨av,g1,g2⟩:=h6.at2 i c hc;rw[g1,nS];have:cl (Hv d h) av=vals c.values:=by
   rcases g2 with⟨e1,rfl|rfl⟩|⟨r,rfl,g3⟩
   ·rw[e1];rfl
   ·rw[e1];rfl
   ·exact EP g3
  show AV.agg [.str c.module,cl (Hv d h) av]=_;simp_all
def iV{v:AV}(h:aG v=true):cq 1 v=true/\ab v=[v]/\df v=some 1:=by
 cases v with
 |any=>cases h
 |agg _=>cases h
 |tup _=>cases h
 |nilb _=>cases h
 |byt _ _=>cases h
 |it _=>cases h
 |_=>exact⟨rfl,rfl,rfl⟩
def mu(m:Ms):Int:=m.deeds.length+m.calls.length+m.fuel
def TQ(k:Int)(x:X α):Prop:=∀m a s,0<=m.fuel->x m= .ok a s->mu s<=mu m+k/\s.fuel<=m.fuel/\0<=s.fuel/\s.frames=m.frames
def JO{k:Int}{a:α}(hk:0<=k):TQ k (.ok a):=fun m b s h0 h=>by cases h;grind
def Ox{k:Int}{e:Int}:TQ k (α:=α) (.er e):=fun m b s _ h=>by cases h
def QR{j k:Int}{x:X α}{f:α->X β}(hx:TQ j x)(hf:∀a,TQ k (f a)):TQ (j+k) (x.bind f):=by
 intro m b s h0 h;unfold X.bind at h;cases hr:x m with
 |er e t=>grind
 |ok a t=>
  rw[hr]at h;obtain⟨h1,h2,h3,h4⟩:=hx m a t h0 hr;obtain⟨g1,g2,g3,g4⟩:=hf a t b s h3 h
  grind
theorem eP{k:Int}{x:X α}{f:α->X β}(hx:TQ 0 x)(hf:∀a,TQ k (f a)):TQ k (x.bind f):=by
 have:=QR hx hf
 grind
theorem JN{j k:Int}{x:X α}(h:TQ j x)(hk:j<=k):TQ k x:=fun m a s h0 e=>by
 obtain⟨h1,h2⟩:=h m a s h0 e
 grind
def dV{k:Int}{c:Prop}[Decidable c]{x y:X α}(h1:TQ k x)(h2:TQ k y):TQ k (if c then x else y):=by
 grind
theorem ni{r:X Val}(h:TQ 0 r):TQ 0 (boolX r):=eP h fun _=>dV (JO (adq _)) Ox
theorem qJ{r:Exp->X Val}(h:∀e,TQ 0 (r e)):∀l,TQ 0 (listX r l)
 |[]=>JO (adq _)
 |e:: l=>eP (h e) fun _=>eP (qJ h l) fun _=>JO (adq _)
def nO(p:List Mod)(r:Ev)(a:Int)(f:Fun)(l:List Val)(m:Ms):bT p r a f l m=if m.frames<60 then((r a (f.params.map (·.1)) l f.body).bind fun v=>.upd (fun m=>{ m with frames:=m.frames-1 }) (.ok v)) (jk p a f l m)else .er 6 m:=by
 unfold bT X.get;by_cases h:m.frames<60
 ·simp only[h,aaV];rfl
 ·simp only[h,aaR];rfl
def zt{p:List Mod}{r:Ev}{a:Int}{f:Fun}(hr:∀o ns vs e,TQ 0 (r o ns vs e)):TQ 1 (bT p r a f l):=by
 intro m v s h0 h;rw[nO]at h;split at h
 ·unfold X.bind at h;cases hr':r a (f.params.map (·.1)) l f.body (jk p a f l m)with
  |er e t=>grind
  |ok b t=>
   rw[hr']at h;cases h;obtain⟨h1,h2,h3,h4⟩:=hr _ _ _ _ (jk p a f l m) v t h0 hr'
   grind [mu,jk]
 ·cases h
def QS{p:List Mod}{r:Ev}(hr:∀o ns vs e,TQ 0 (r o ns vs e))(o:Int)(ns:List az)(vs:List Val)(e:Exp):TQ 0 (jP p r o ns vs e):=by
 have tick:∀y:X Val,TQ 1 y->TQ 0 (ji y):=fun y hy m a s h0 h=>by
  unfold ji X.get at h;by_cases hf:m.fuel<=0
  ·simp only[hf,aaV]at h;cases h
  ·simp only[hf,aaR]at h;obtain⟨h1,h2,h3,h4⟩:=hy { m with fuel:=m.fuel-1 } a s qr h
   grind [mu]
 have H:=fun e=>hr o ns vs e;have ok1:∀(α:Type)(a:α),TQ 1 (.ok a):=fun _ _=>JO WD;have er1:∀(α:Type) e,TQ 1 (α:=α) (.er e):=fun _ _=>Ox;have H1:=fun e=>JN (H e) (show (0:Int)<=1 by omega);refine tick _ ?_;refine dV (er1 _ _) (dV (ok1 _ _) (dV (dV (ok1 _ _) (er1 _ _)) (dV ?_ (dV ?_ (dV ?_ (dV ?_ (dV ?_ (dV ?_ (dV ?_ (dV ?_ (dV ?_ (dV ?_ ?_))))))))))))
 ·grind
 ·refine eP (H _) fun a=>eP (H _) fun b=>?_;unfold nr
  grind
 ·exact eP (ni (H _)) fun a=>dV (ok1 _ _) (eP (ni (H _)) fun b=>ok1 _ _)
 ·grind [eP,ni]
 ·simp_all[eP,ni]
 ·grind [eP,JN]
 ·unfold im;exact dV (dV (eP (qJ H _) fun vs=>dV (ok1 _ _) (er1 _ _)) (er1 _ _)) (er1 _ _)
 ·refine eP (H _) fun v=>?_
  grind
 ·unfold nL;simp only;split
  ·exact er1 _ _
  ·exact dV (dV (eP (qJ H _) fun l=>zt hr) (er1 _ _)) (er1 _ _)
 ·unfold tW;refine eP (H _) fun v=>dV (dV (fun m a s h0 h=>?_) (er1 _ _)) (er1 _ _);cases h;simp only[mu]
  grind
 ·unfold tP;refine dV (er1 _ _) ?_;simp only;refine dV (er1 _ _) (dV (eP (H _) fun v m a s h0 h=>?_) fun m a s h0 h=>?_)
  ·cases h;exact⟨by simp only[mu];omega,adq _,h0,rfl⟩
  ·cases h
   grind
theorem pd{p:List Mod}:∀(n:Nat)(o:Int)(ns:List az)(vs:List Val)(e:Exp),TQ 0 (aR p n o ns vs e)
 |0,_,_,_,_=>Ox
 |n+1,o,ns,vs,e=>QS (fun o ns vs e=>pd n o ns vs e) o ns vs e
structure GoodM (p:List Mod) (m:Ms):Prop where
 right:B8 m
 bud:mu m<=1000000
 fr:0<=m.frames/\m.frames<=60
 fuel:0<=m.fuel
 shape:∀(i:Nat)(x:Mod),p[i]? = some x->∃l,m.state[i]? = some l/\l.length=x.vars.length
theorem GoodM.eval{p:List Mod}{n:Nat}{o:Int}{ns:List az}{vs:List Val}{e:Exp}{m s:Ms}{v:Val}(G:GoodM p m)(hs:py ns vs)(h:aR p n o ns vs e m= .ok v s):GoodM p s/\Rv v/\s.fuel<=m.fuel:=by
 obtain⟨h1,h2,h3,h4⟩:=pd n o ns vs e m v s G.fuel h;obtain⟨g1,g2,g3⟩:=pb (p:=p) n o ns vs e hs m G.right;rw[h]at g1 g2;refine⟨⟨g1,by have:=G.bud;omega,by rw[h4];exact G.fr,h3,fun i x hx=>?_⟩,g3 v s h,h2⟩;obtain⟨l,k1,k2⟩:=G.shape i x hx;have:(mE s)[i]? = (mE m)[i]?:=by rw[show mE s=mE m from g2]
 simp only[mE,aby,k1,abq]at this
 grind
def GoodM.bool{p:List Mod}{n:Nat}{o:Int}{ns:List az}{vs:List Val}{e:Exp}{m s:Ms}{b:Bool}(G:GoodM p m)(hs:py ns vs)(h:boolX (aR p n o ns vs e) m= .ok b s):GoodM p s/\s.fuel<=m.fuel:=by
 unfold boolX X.bind at h;cases hr:aR p n o ns vs e m with
 |er c t=>grind
 | ok v t=>
  rw[hr]at h;simp only at h;split at h
  ·cases h;exact⟨(G.eval hs hr).1,(G.eval hs hr).2.2⟩
  ·cases h
def Ig{v:Val}(h:Rv v):v.names.length<=8:=by
 unfold Rv cb at h
 grind
theorem I7:∀(d:Nat)(v:Val),cb d v=true->v.sz<=17*9 ^ d
 |0,v,h=>by simp[cb]at h
 | d + 1,v,h=>by
  have hp:1<=9 ^ d:=Nat.one_le_pow _ _ Vc;obtain⟨k,n,ns,vs⟩:=v;unfold cb at h;simp only[Val.sz];split at h
  ·simp only[aaD,aa9,aao,aah]at h
   grind [ba]
  ·simp only[aaD,aa9,aaS,aao,aah]at h;have h8:=of_decide_eq_true h.1.1.2;have hl:=h.1.1.1.2;have hv:=h.2;have key:∀l:List Val,(∀v∈l,cb d v=true)->ba l<=l.length*(17*9 ^ d):=by
    intro l
    induction l with
    |nil=>intro _;simp[ba]
    |cons v l ih=>
     intro h;have h1:=I7 d v (h v abm)
     grind [ba,Nat.add_mul]
   have h3:=key vs hv;have h4:vs.length*(17*9 ^ d)<=8*(17*9 ^ d):=aa3 _ WD
   grind
theorem F5{v:Val}(h:Rv v):v.sz<=200000:=abK (I7 4 v h) Vc
end Go.Av.Ap
namespace Go.Av.Ap
open Go Go.Av
def iG(f:Fun):Fun:={ f with pub:=true }
def my(m:Mod):Mod:={ m with funcs:=m.funcs.map iG }
def bW(p:List Mod):List Mod:=p.map my
theorem CG{α β:Type}(g:α->β){F:α->Bool}{G:β->Bool}(h:∀x,G (g x)=F x):∀(l:List α)(i:Int),aS G (l.map g) i=aS F l i
 |[],i=>rfl
 |x:: l,i=>by
  simp only[aa0,aS,h,CG g h l]
def yK(p:List Mod)(s:az):modAt (bW p) s=modAt p s:=CG my (fun _=>rfl) p 0
def tv(p:List Mod)(i:Nat):(bW p)[i]?.getD default=my (p[i]?.getD default):=by
 unfold bW;rw[aby];cases p[i]? <;> rfl
def uy(p:List Mod)(a:Int)(s:az):eu (bW p) a s=(eu p a s).map iG:=by
 unfold eu;split
 ·rfl
 ·simp only[tv];have h:jt (my (p[a.toNat]?.getD default)).funcs s=jt (p[a.toNat]?.getD default).funcs s:=CG iG (fun _=>rfl) _ 0;rw[h];split
  ·rfl
  ·exact aby
def Hid(p:List Mod)(x:Ap.Call):Prop:=∃(a:Nat)(f:Fun),f∈(p[a]?.getD default).funcs/\f.pub=false/\x.module=(p[a]?.getD default).name/\x.func=f.name
structure RelM (p:List Mod) (m m':Ms):Prop where
 fuel:m'.fuel=m.fuel
 frames:m'.frames=m.frames
 world:m'.world=m.world
 deeds:m'.deeds=m.deeds
 state:m'.state=m.state
 sub:∀x∈m.calls,x∈m'.calls
 hid:∀x∈m'.calls,x∈m.calls\/Hid p x
variable {α:Type}
def VJ(p:List Mod)(r r':Rs α):Prop:=(∃s,r= .er 12 s)\/(∃a s s',r= .ok a s/\r'= .ok a s'/\RelM p s s')\/∃e s s',r= .er e s/\r'= .er e s'/\RelM p s s'
def zG(p:List Mod)(x y:X α):Prop:=∀m m',RelM p m m'->VJ p (x m) (y m')
variable {β:Type}
section
variable {p:List Mod}
theorem fU(a:α):zG p (.ok a) (.ok a):=fun m m' h=>.inr (.inl ⟨a,m,m',rfl,rfl,h⟩)
theorem gt(e:Int):zG p (.er (α:=α) e) (.er e):=fun m m' h=>.inr (.inr ⟨e,m,m',rfl,rfl,h⟩)
theorem UC(y:X α):zG p (.er (α:=α) 12) y:=fun m m' h=>.inl ⟨m,rfl⟩
theorem eA{x y:X α}{f g:α->X β}(h:zG p x y)(hf:∀a,zG p (f a) (g a)):zG p (x.bind f) (y.bind g):=fun m m' hm=>by
 rcases h m m' hm with⟨s,e⟩|⟨a,s,s',e1,e2,hs⟩|⟨e,s,s',e1,e2,hs⟩
 ·exact .inl ⟨s,by simp only[X.bind,e]⟩
 ·simp only[X.bind,e1,e2];exact hf a s s' hs
 ·simp only[X.bind,e1,e2];exact .inr (.inr ⟨e,s,s',rfl,rfl,hs⟩)
theorem cd{c:Prop}[Decidable c]{x y x' y':X α}(h1:zG p x x')(h2:zG p y y'):zG p (if c then x else y) (if c then x' else y'):=by
 grind
theorem tJ{f g:Ms->Ms}{x y:X α}(hf:∀m m',RelM p m m'->RelM p (f m) (g m'))(h:zG p x y):zG p (.upd f x) (.upd g y):=fun m m' hm=>h _ _ (hf m m' hm)
theorem wA{f g:Ms->X α}(h:∀m m',RelM p m m'->VJ p (f m m) (g m' m')):zG p (.get f) (.get g):=h
theorem tI{x y:X Val}(h:zG p x y):zG p (boolX x) (boolX y):=eA h fun v=>cd (fU _) (gt _)
theorem zf{r r':Exp->X Val}(h:∀e,zG p (r e) (r' e)):∀l,zG p (listX r l) (listX r' l)
 |[]=>fU _
 |e:: l=>eA (h e) fun _=>eA (zf h l) fun _=>fU _
theorem BJ{r r':Ev}(h:∀o ns vs e,zG p (r o ns vs e) (r' o ns vs e))(a:Int)(f:Fun)(hf:f∈(p[a.toNat]?.getD default).funcs)(l:List Val):zG p (bT p r a f l) (bT (bW p) r' a (iG f) l):=by
 refine wA fun m m' hm=>?_;rw[hm.frames];by_cases hfr:m.frames<60
 ·simp only[hfr,aaV];refine tJ ?_ (eA (h _ _ _ _) fun v=>?_) m m' hm
  rotate_left
  ·refine tJ ?_ (fU _);exact fun m m' hm=>⟨hm.fuel,by simp only[hm.frames],hm.world,hm.deeds,hm.state,hm.sub,hm.hid⟩
  intro m m' hm;have e:((bW p)[a.toNat]?.getD default).name=(p[a.toNat]?.getD default).name:=by rw[tv];rfl
  refine⟨hm.fuel,by simp only[hm.frames],hm.world,hm.deeds,hm.state,fun x hx=>?_,fun x hx=>?_⟩
  ·have hx:x∈if f.pub=true then m.calls++[⟨(p[a.toNat]?.getD default).name,f.name,l⟩]else m.calls:=hx;show x∈m'.calls++[⟨((bW p)[a.toNat]?.getD default).name,f.name,l⟩];rw[e];split at hx
   ·rcases aba.1 hx with hx|hx
    ·exact ab9 _ (hm.sub x hx)
    grind
   ·exact ab9 _ (hm.sub x hx)
  ·have hx:x∈m'.calls++[⟨((bW p)[a.toNat]?.getD default).name,f.name,l⟩]:=hx;show (x∈if f.pub=true then m.calls++[⟨(p[a.toNat]?.getD default).name,f.name,l⟩]else m.calls)\/Hid p x;rw[e]at hx;cases hp:f.pub with
   |true=>
    rw[aaH rfl];rcases aba.1 hx with hx|hx
    ·exact (hm.hid x hx).imp (ab9 _) id
    grind
   | false=>
    rw[aaC AI];rcases aba.1 hx with hx|hx
    ·exact hm.hid x hx
    ·rw[abF]at hx;subst hx;exact .inr ⟨a.toNat,f,hf,hp,rfl,rfl⟩
 ·simp only[hfr,aaR];exact gt _ _ _ hm
theorem Og{r r':Ev}(h:∀o ns vs e,zG p (r o ns vs e) (r' o ns vs e))(o:Int)(ns:List az)(vs:List Val)(e:Exp):zG p (jP p r o ns vs e) (jP (bW p) r' o ns vs e):=by
 unfold jP;refine wA fun m m' hm=>?_;rw[hm.fuel];by_cases hfu:m.fuel<=0
 ·simp only[hfu,aaV];exact gt _ _ _ hm
 simp only[hfu,aaR];refine tJ ?_ ?_ m m' hm
 ·exact fun m m' hm=>⟨by simp only[hm.fuel],hm.frames,hm.world,hm.deeds,hm.state,hm.sub,hm.hid⟩
 clear hfu hm m m';refine cd (gt _) (cd (fU _) (cd (cd (fU _) (gt _)) (cd ?_ (cd ?_ (cd ?_ (cd ?_ (cd ?_ (cd ?_ (cd ?_ (cd ?_ (cd ?_ (cd ?_ ?_))))))))))))
 ·grind [fU,gt]
 ·refine eA (h _ _ _ _) fun a=>eA (h _ _ _ _) fun b=>?_;unfold nr;exact cd (cd (fU _) (gt _)) (cd (cd (fU _) (cd (fU _) (cd (fU _) (fU _)))) (gt _))
 ·exact eA (tI (h _ _ _ _)) fun a=>cd (fU _) (eA (tI (h _ _ _ _)) fun b=>fU _)
 ·grind [eA,tI,fU]
 ·simp_all[eA,tI]
 ·grind [eA]
 ·unfold im;exact cd (cd (eA (zf (fun e=>h _ _ _ e) _) fun vs=>cd (fU _) (gt _)) (gt _)) (gt _)
 ·refine eA (h _ _ _ _) fun v=>?_;split
  all_goals simp_all[cd,fU,gt]
 ·unfold nL;simp only[yK,uy];cases hf:eu p (if e.m=[]then o else modAt p e.m) e.s with
  |none=>exact gt _
  | some f=>
   simp only[abq];by_cases hc:e.m=[]\/f.pub=true
   ·have hc':e.m=[]\/(iG f).pub=true:=.inr rfl;rw[aaH hc,aaH hc'];have hl:(iG f).params=f.params:=rfl;rw[hl];exact cd (eA (zf (fun e=>h _ _ _ e) _) fun l=>BJ h _ f (gT hf).2.2 l) (gt _)
   simp_all[UC]
 ·unfold tW;refine eA (h _ _ _ _) fun v=>cd (cd (wA fun m m' hm=>?_) (gt _)) (gt _);rw[hm.world];refine tJ ?_ (fU _) m m' hm;exact fun m m' hm=>⟨hm.fuel,hm.frames,by simp only[hm.world],by simp only[hm.deeds,hm.world],hm.state,hm.sub,hm.hid⟩
 ·unfold tP;refine cd (gt _) ?_;have hv:((bW p)[o.toNat]?.getD default).vars=(p[o.toNat]?.getD default).vars:=by rw[tv];rfl
  simp only[hv];refine cd (gt _) (cd (eA (h _ _ _ _) fun v=>?_) (wA fun m m' hm=>?_))
  ·refine tJ ?_ (fU _);exact fun m m' hm=>⟨hm.fuel,hm.frames,hm.world,hm.deeds,by simp only[hm.state],hm.sub,hm.hid⟩
  rw[hm.state];exact fU _ m m' hm
theorem Gk:∀(n:Nat)(o:Int)(ns:List az)(vs:List Val)(e:Exp),zG p (aR p n o ns vs e) (aR (bW p) n o ns vs e)
 |0,_,_,_,_=>gt _
 |n+1,o,ns,vs,e=>Og (fun o ns vs e=>Gk n o ns vs e) o ns vs e
end
theorem rY:(p:List Mod)->fw (bW p)=fw p
 |[]=>rfl
 |m:: ms=>by
  show fw (my m:: bW ms)=_;unfold fw;rw[rY ms];rfl
theorem H4(p:List Mod):nj (bW p)=nj p:=by
 unfold nj;have hl:(bW p).length=p.length:=abA _;rw[hl];congr 1;funext i;have e:((bW p)[i]?.getD default).name=(p[i]?.getD default).name:=by rw[tv];rfl
 rw[e];unfold bW;rw[<- adw,List.any_map];rfl
def mz(p:List Mod):dD (bW p)=dD p:=by
 grind [dD,H4,bW]
theorem oV:(p:List Mod)->(st:List Vars)->dB (bW p) st=dB p st
 |[],[]=>rfl
 |[],_:: _=>rfl
 |_:: _,[]=>rfl
 |m:: ms,v:: st=>by
  have ih:=oV ms st
  grind [dB,jX,my,bW]
theorem N8(p:List Mod)(module fn:az)(args:List Val)(world:List Int)(fuel:Int):(fW p module fn args world fuel).err=12\/
  ((fW (bW p) module fn args world fuel).err=(fW p module fn args world fuel).err/\(∀x∈(fW p module fn args world fuel).calls,x∈(fW (bW p) module fn args world fuel).calls)/\
   ∀x∈(fW (bW p) module fn args world fuel).calls,x∈(fW p module fn args world fuel).calls\/Hid p x):=by
 have same:∀o:Out,o.err=o.err/\(∀x∈o.calls,x∈o.calls)/\∀x∈o.calls,x∈o.calls\/Hid p x:=fun o=>⟨rfl,fun _ h=>h,fun _ h=>.inl h⟩;have hF:eB (bW p)=eB p:=by unfold eB;rw[mz,rY]
 unfold fW;rw[hF]
 ·cases eB p with
  |error e=>grind
  | ok st=>
   simp only;unfold jr;rw[mz,oV,yK,uy];by_cases h1:dD p≠0
   ·grind
   rw[aaC h1,aaC h1];by_cases h2:fuel<0\/100000<fuel\/dB p st=false
   ·grind
   rw[aaC h2,aaC h2];cases hf:eu p (modAt p module) fn with
   |none=>grind
   | some f=>
    simp only[abq];have hl:(iG f).params=f.params:=rfl;rw[hl];by_cases h3:args.length=f.params.length/\args.all (cb 4)=true
    ·rw[aaH h3,aaH h3];have hS:=BJ (p:=p) (r:=aR p 100000) (r':=aR (bW p) 100000) (fun o ns vs e=>Gk 100000 o ns vs e) (modAt p module) f (gT hf).2.2 args;rcases hS (aW world fuel (st.map (·.values))) (aW world fuel (st.map (·.values))) ⟨rfl,rfl,rfl,rfl,rfl,fun _ h=>h,fun _ h=>.inl h⟩with⟨s,e⟩|⟨a,s,s',e1,e2,hs⟩|⟨e,s,s',e1,e2,hs⟩
     ·rw[e];exact .inl rfl
     ·rw[e1,e2];exact .inr ⟨rfl,hs.sub,hs.hid⟩
     ·rw[e1,e2];exact .inr ⟨rfl,hs.sub,hs.hid⟩
    grind
variable {a:Int}
def Ex{p:List Mod}{n:Nat}{f:Fun}(hp:f.pub=true)(l:List Val){m:Ms}(hm:m.frames<60):(⟨(p[a.toNat]?.getD default).name,f.name,l⟩:Ap.Call)∈(bT p (aR p n) a f l m).st.calls:=by
 have h:(jk p a f l m).calls <+: (((aR p n a (f.params.map (·.1)) l f.body).bind fun v=>.upd (fun m=>{ m with frames:=m.frames-1 }) (.ok v)) (jk p a f l m)).st.calls:=
  (A5 ((ES p).eval n a (f.params.map (·.1)) l f.body).1 (fun v m=>⟨abn _,abn _⟩) (jk p a f l m)).2
 have e:bT p (aR p n) a f l m=(((aR p n a (f.params.map (·.1)) l f.body).bind fun v=>.upd (fun m=>{ m with frames:=m.frames-1 }) (.ok v)) (jk p a f l m)):=by
  unfold bT X.get;simp only[aaH hm];rfl
 rw[e];refine h.subset ?_;unfold jk;simp[hp]
theorem Ln(p:List Mod)(module fn:az)(args:List Val)(world:List Int)(fuel:Int){f:Fun}(hf:eu p (modAt p module) fn=some f)(hp:f.pub=true):(fW (bW p) module fn args world fuel).calls=[]\/
  ∃c∈(fW p module fn args world fuel).calls,c.module=(p[(modAt p module).toNat]?.getD default).name/\c.func=f.name:=by
 have hF:eB (bW p)=eB p:=by unfold eB;rw[mz,rY]
 unfold fW;rw[hF];cases eB p with
 |error e=>exact .inl rfl
 | ok st=>
  simp only;unfold jr;rw[mz,oV,yK,uy];by_cases h1:dD p≠0
  ·rw[aaH h1];exact .inl rfl
  rw[aaC h1,aaC h1];by_cases h2:fuel<0\/100000<fuel\/dB p st=false
  ·rw[aaH h2];exact .inl rfl
  rw[aaC h2,aaC h2,hf];simp only[abq];have hl:(iG f).params=f.params:=rfl;rw[hl];by_cases h3:args.length=f.params.length/\args.all (cb 4)=true
  ·rw[aaH h3,aaH h3];refine .inr ⟨⟨(p[(modAt p module).toNat]?.getD default).name,f.name,args⟩,?_,rfl,rfl⟩;rw[m8];exact Ex hp args (show (0:Int)<60 by decide)
  ·rw[aaC h3];exact .inl rfl
def ou(l:List Fun):List AV:=l.flatMap fun f=>ab f.av
def AY(f:Fun):∃x y z w v a b c d e,ab f.av=[.str f.name,.bool f.pub,x,y,z,w,v,a,b,c,d,e]/\ab (iG f).av=[.str f.name,.bool true,x,y,z,w,v,a,b,c,d,e]:=by
 obtain⟨n,p,ps,r,ef,b⟩:=f;cases r;cases b;exact⟨_,_,_,_,_,_,_,_,_,_,rfl,rfl⟩
def za(l:List Fun):(ou l).length=l.length*12:=by
 induction l with
 |nil=>rfl
 |cons f l ih=>
  obtain⟨x,y,z,w,v,a,b,c,d,e,h,_⟩:=AY f;unfold ou at ih |-;rw[abZ,abh,ih,h];simp;omega
def F7(a b:List Fun):ou (a++b)=ou a++ou b:=List.flatMap_append
def QH(A B:List Fun)(f:Fun):setCells (ou (A++f:: B)) (A.length*12+1) [.bool true]=ou (A++iG f:: B):=by
 have e:∀a:List AV,a.length=A.length*12->∀b c:List AV,setCells (a++b) (A.length*12+1) c=a++setCells b 1 c:=by
  intro a ha b c;unfold setCells;rw[<- ha,acm,ac1,abW WD,List.drop_of_length_le WD];simp;rw[show a.length+1+c.length-a.length=1+c.length by omega]
 rw[F7,F7,e _ (za A)];congr 1
def KC{h:Hp}{r:Nat}{l:List Fun}(hr:h[r]? = some (ou l)):jd 1 h (.hs r 0 l.length 12 true)=dW l:=by
 rw[nS];show Hv 0 h r 0 l.length 12 true=_;rw[sO hr (za l) Vc];unfold dW;congr 1;refine oq fun i f hf=>?_;have:∀(l:List Fun)(i:Nat)(f:Fun),l[i]? = some f->((ou l).drop (i*12)).take 12=ab f.av:=by
  intro l
  induction l with
  |nil=>grind
  | cons g l ih=>
   intro i f h;obtain⟨x,y,z,w,v,a,b,c,d,e,h1,_⟩:=AY g;cases i with
   |zero=>simp_all[ou]
   |succ i=>
    have h:l[i]? = some f:=by simpa using h
    rw[<- ih i f h];unfold ou;rw[abZ,h1,ac1,List.drop_of_length_le Bk,aaU];congr 2;simp;omega
 rw[this l i f hf];exact Cj _ f
def KX(m:Mod)(v:AV):AV:=.agg [.str m.name,strs m.uses,.sl (dj m.vars),.sl (dq m.init),v,.bool m.moves,.sl (dj m.old),.sl (dq m.forward),.sl (dq m.back)]
def TF{m:Mod}{h:Hp}{r n:Nat}{l:List Fun}(hn:n=l.length)(hr:h[r]? = some (ou l)):oN (KX m (.hs r 0 n 12 true)) h= .ok ({ m with funcs:=l }).av (h.set r []):=by
 subst hn;show R.ok (cl (Hy h r) (KX m (.hs r 0 l.length 12 true))) (h.set r [])=_;have e:Hy h r r 0 l.length 12 true=dW l:=by
  unfold Hy;rw[show Nat.beq r r=true from Nat.beq_refl r,aaF,KC hr]
 have h1:∀x:List bQ,ek (Hy h r) (dj x)=dj x:=fun x=>AV.sl.inj (sF _ x);have h2:∀x:List Exp,ek (Hy h r) (dq x)=dq x:=fun x=>AV.sl.inj (IX _ x);unfold KX;simp only[cl,ek,oI,h1,h2,e];rfl
def PK{m:Mod}{h:Hp}:oN (KX m .he) h= .ok ({ m with funcs:=[] }).av h:=by
 have h1:∀x:List bQ,ek ao (dj x)=dj x:=fun x=>AV.sl.inj (sF _ x);have h2:∀x:List Exp,ek ao (dq x)=dq x:=fun x=>AV.sl.inj (IX _ x);show R.ok (cl ao (KX m .he)) h=_;unfold KX;simp only[cl,ek,oI,h1,h2];rfl
def L6{T:TT}{t e:Nat}{ti ei:TI}{l:List Fun}{h:Hp}(ht:T t=some ti)(hk:ti.kind= .slice e)(he:T e=some ei)(hsz:ei.size=12)(hag:ei.agg=true)(hb0:0<ei.bytes)(hb1:ei.bytes<=100000)(hl:0<l.length)(hb:l.length<=1000000):
  appH T t false .he (dW l) h= .ok (.hs h.length 0 l.length 12 true) (h++[ou l]):=by
 have hm:(l.map Fun.av).flatMap ab=ou l:=by
  rw[List.flatMap_map];rfl
 have hle:l.length*ei.bytes<=1000000*100000:=Nat.mul_le_mul hb hb1;unfold appH;rw[ht];simp only[hk,he,show jp (dW l)=some (l.map Fun.av)from rfl,hsz,hag,K8,show ll (dW l) 12=true from rfl,abA,hm];have h0:(l.map Fun.av).isEmpty=false:=by
  cases l with
  |nil=>simp at hl
  |cons=>rfl
 grind
def iS(e:Exp):Exp×Int:=
 if e.op=0\/e.op=1 then(.mk e.op e.n [] [] [] e.args,0)
 else if e.op=2\/e.op=17 then(.mk e.op 0 e.s [] [] e.args,0)
 else if e.op=18\/e.op=14 then(.mk e.op 0 e.s [] [] e.args,1)
 else if e.op=16 then(.mk e.op e.n [] [] [] e.args,1)
 else if e.op=10 then(.mk e.op 0 [] [] [] e.args,1)
 else if e.op=12 then(.mk e.op 0 e.s [] [] e.args,2)
 else if e.op=11 then(.mk e.op 0 [] [] [] e.args,3)
 else if e.op=13 then(.mk e.op 0 [] [] e.names e.args,e.names.length)
 else if e.op=15 then(.mk e.op 0 e.s e.m [] e.args,-1)
 else(.mk e.op 0 [] [] [] e.args,2)
def yA(l:List az):Bool:=(l.all dY&&pE gH l)&&decide (l.length<=8)
def je(e:Exp):Bool:=
 if e.op=0 then decide (0<=e.n)&&decide (e.n<=1099511627776)
 else if e.op=1 then e.n== 0||e.n== 1
 else if e.op=16 then((e.n== 1||e.n== 2)||e.n== 4)||e.n== 8
 else if e.op=2\/e.op=17\/e.op=18\/e.op=14\/e.op=12 then dY e.s
 else if e.op=15 then dY e.s&&(e.m== []||dY e.m)&&decide (e.args.length<=6)
 else if e.op=13 then yA e.names
 else true
def qg(e:Exp):Bool:=
 decide (0<=e.op)&&decide (e.op<19)&&(decide ((iS e).2<0)||((iS e).2== (e.args.length:Int)))&&((iS e).1.n== e.n)&&((iS e).1.s== e.s)&&((iS e).1.m== e.m)&&(((iS e).1.names.length:Int)== (e.names.length:Int))&&je e
def cX:Nat->Exp->Bool
 |0,_=>false
 |d+1,e=>qg e&&e.args.all (cX d)
theorem nf(d:Nat)(e:Exp):cX (d+1) e=(qg e&&e.args.all (cX d)):=rfl
def qM(a b:Int):Int:=IntKind.i64.wrap (BitVec.ofInt 64 a ||| BitVec.ofInt 64 b).toNat
mutual
def zD:Ty->Ty->Option Ty
 |.mk k fs,b=>if k=b.kind then some (.mk k (pr fs b.fields))else none
def pr:List (az×Ty)->List bQ->List bQ
 |[],_=>[]
 |f:: fs,l=>(match UL f l with|some x=>[x]|none=>[])++pr fs l
def UL:az×Ty->List bQ->Option bQ
 |(n,t),l=>match bV (fun z=>z.1== n) l with
  |some z=>(match zD t z.2 with|some u=>some (n,u)|none=>none)
  |none=>none
end
def nq(k:Int)(l:List Ty):Bool:=l.all fun t=>t.kind== k
def bP(e:Exp)(l:List Ty):Option Ty:=
 if e.op=3\/e.op=4\/e.op=5\/e.op=16 then(if nq 0 l=true then some (.mk 0 [])else none)
 else if e.op=1 then some (.mk 1 [])
 else if e.op=6 then(if nq 0 l=true then some (.mk 1 [])else none)
 else if e.op=7 then(if(nq 0 l||nq 1 l)=true then some (.mk 1 [])else none)
 else if e.op=8\/e.op=9\/e.op=10 then(if nq 1 l=true then some (.mk 1 [])else none)
 else if e.op=11 then(match zD l[1]! l[2]! with|some t=>if l[0]!.kind=1 then some t else none|none=>none)
 else if e.op=13 then some (.mk 2 (e.names.zip l))
 else if e.op=14 then(match bV (fun z=>z.1== e.s) l[0]!.fields with|some z=>some z.2|none=>none)
 else some (.mk 0 [])
inductive Tr (α:Type) where
 |ok (a:α) (n:Int)
 |er (e n:Int)
abbrev eG(α:Type):=Int->Tr α
def eG.ok(a:α):eG α:=fun n=>.ok a n
def eG.er(e:Int):eG α:=fun n=>.er e n
def eG.bind(x:eG α)(f:α->eG β):eG β:=fun n=>match x n with
 |.ok a n'=>f a n'
 |.er e n'=>.er e n'
structure Tcx where
 vars:List bQ
 funcs:List Fun
 uses:List az
 faces:az->Option Face
def dm(c:Tcx)(e:Exp):Option (List Ty×Ty×Int):=
 if e.m=[]then(match c.funcs.find? fun f=>f.name== e.s with
  |some f=>some (f.params.map (·.2),f.result,f.effects)
  |none=>none)
 else match c.faces e.m with
  |none=>none
  |some f=>match f.funcs.find? (fun s=>s.name== e.s)with
   |none=>none
   |some s=>if e.m∈c.uses then some (s.params,s.result,s.effects)else none
def dG(r:Exp->eG Ty):List Exp->eG (List Ty)
 |[]=>.ok []
 |e:: es=>.bind (r e) fun t=>.bind (dG r es) fun ts=>.ok (t:: ts)
def b9(c:Tcx)(r:List bQ->Exp->eG Ty)(ls:List bQ)(e:Exp):eG Ty:=
 if e.op=2 then(match bV (fun z=>z.1== e.s) ls with|some z=>.ok z.2|none=>.er 12)
 else if e.op=12 then .bind (r ls e.args[0]!) fun t=>r (ls++[(e.s,t)]) e.args[1]!
 else if e.op=17\/e.op=18 then(match bV (fun z=>z.1== e.s) c.vars with
  |none=>.er 12
  |some z=>if e.op=18 then .bind (r ls e.args[0]!) fun u=>if cg u z.2=true then .ok z.2 else .er 13 else .ok z.2)
 else if e.op=15 then(match dm c e with
  |none=>.er 12
  |some s=>if s.1.length=e.args.length then .bind (dG (r ls) e.args) fun l=>if jX cg l s.1=true then fun n=>.ok s.2.1 (qM n s.2.2)else .er 13 else .er 13)
 else .bind (dG (r ls) e.args) fun l n=>match bP e l with
  |some t=>.ok t (if e.op=16 then qM n e.n else n)
  |none=>.er 13 (if e.op=16 then qM n e.n else n)
def bk(c:Tcx):Nat->List bQ->Exp->eG Ty
 |0=>fun _ _=>.er 16
 |d+1=>b9 c (bk c d)
def wd:Tcx:=⟨[],[],[],fun _=>none⟩
def po(ls:List bQ)(e:Exp)(want:Ty):Int:=match bk wd 12 ls e 0 with
 |.er b _=>b
 |.ok t n=>if n≠0 then 14 else if cg t want=true then 0 else 13
def cL:List (az×Int)->az×Int
 |[]=>([],0)
 |x:: l=>if x.2=0 then cL l else x
def iH(ls:List bQ)(vs:List bQ)(es:List Exp):List (az×Int):=(vs.zip es).map fun x=>(x.1.1,po ls x.2 x.1.2)
def nB(m:Mod):az×Int:=cL (iH [] m.vars m.init++if m.moves=true then iH m.old m.vars m.forward++iH m.vars m.old m.back else[])
def LC(c:Tcx)(f:Fun):Int:=match bk c 12 f.params f.body 0 with
 |.er b _=>b
 |.ok t n=>if cg t f.result=true then(if gh n f.effects=0 then 0 else 14)else 13
def kW(f:Face):Bool:=f.funcs.all fun s=>bZ s.result&&s.params.all bZ
def Ly(x:eG α):Prop:=∀n b n',x n= .er b n'->b≠0
theorem FG(a:α):Ly (.ok a):=fun n b n' h=>by cases h
theorem yB{e:Int}(h:e≠0):Ly (α:=α) (.er e):=fun n b n' h'=>by cases h';exact h
def qy{x:eG α}{f:α->eG β}(hx:Ly x)(hf:∀a,Ly (f a)):Ly (.bind x f):=fun n b n' h=>by
 unfold eG.bind at h;split at h
 ·exact hf _ _ _ _ h
 ·rename_i e' m hm;cases h;exact hx _ _ _ hm
def pU{c:Prop}[Decidable c]{x y:eG α}(h1:Ly x)(h2:Ly y):Ly (if c then x else y):=by
 grind
theorem td{r:Exp->eG Ty}(h:∀e,Ly (r e)):∀l,Ly (dG r l)
 |[]=>FG _
 |e:: l=>qy (h e) fun _=>qy (td h l) fun _=>FG _
theorem kB(c:Tcx):∀(d:Nat)(ls:List bQ)(e:Exp),Ly (bk c d ls e)
 |0,_,_=>yB Vc
 | d+1,ls,e=>by
  have H:=kB c d;show Ly (b9 c (bk c d) ls e);unfold b9;refine pU ?_ (pU ?_ (pU ?_ (pU ?_ ?_)))
  ·grind [FG,yB]
  ·exact qy (H _ _) fun _=>H _ _
  ·split
   ·exact yB Vc
   ·exact pU (qy (H _ _) fun _=>pU (FG _) (yB Vc)) (FG _)
  ·split
   ·exact yB Vc
   ·exact pU (qy (td (H _) _) fun _=>pU (fun n b n' h=>by cases h) (yB Vc)) (yB Vc)
  ·refine qy (td (H _) _) fun l n b n' h=>?_
   grind
variable {e:Exp}{ls:List bQ}{c:Tcx}
def zm{r:List bQ->Exp->eG Ty}(h:e.op=12):b9 c r ls e= .bind (r ls e.args[0]!) fun t=>r (ls++[(e.s,t)]) e.args[1]!:=by
 simp_all[b9]
def Iq{r:List bQ->Exp->eG Ty}(h:e.op=2):b9 c r ls e=(match bV (fun z=>z.1== e.s) ls with|some z=>.ok z.2|none=>.er 12):=by
 unfold b9;rw[aaH h]
theorem zl{r:List bQ->Exp->eG Ty}(h:e.op=17\/e.op=18):b9 c r ls e=(match bV (fun z=>z.1== e.s) c.vars with
  |none=>.er 12
  |some z=>if e.op=18 then .bind (r ls e.args[0]!) fun u=>if cg u z.2=true then .ok z.2 else .er 13 else .ok z.2):=by
 unfold b9;grind
theorem vQ{r:List bQ->Exp->eG Ty}(h:e.op=15):b9 c r ls e=(match dm c e with
  |none=>.er 12
  |some s=>if s.1.length=e.args.length then .bind (dG (r ls) e.args) fun l=>if jX cg l s.1=true then fun n=>.ok s.2.1 (qM n s.2.2)else .er 13 else .er 13):=by
 simp_all[b9]
def vK(e:Exp)(l:List Ty):eG Ty:=fun n=>match bP e l with
 |some t=>.ok t (if e.op=16 then qM n e.n else n)
 |none=>.er 13 (if e.op=16 then qM n e.n else n)
def sa{l:List Ty}{t:Ty}(h:bP e l=some t)(n:Int):vK e l n= .ok t (if e.op=16 then qM n e.n else n):=by
 unfold vK;rw[h]
def r9{l:List Ty}(h:bP e l=none)(n:Int):vK e l n= .er 13 (if e.op=16 then qM n e.n else n):=by
 unfold vK;rw[h]
def vR{r:List bQ->Exp->eG Ty}(h1:¬e.op=2)(h2:¬e.op=12)(h3:¬(e.op=17\/e.op=18))(h4:¬e.op=15):b9 c r ls e= .bind (dG (r ls) e.args) (vK e):=by
 unfold b9;rw[aaC h1,aaC h2,aaC h3,aaC h4];rfl
abbrev Lj(e:Exp):Bool:=cX 12 e
def FL:List az->List bQ->Bool
 |_,[]=>true
 |seen,f:: l=>!(seen.contains f.1)&&dY f.1&&bZ f.2&&FL (seen++[f.1]) l
def jE(l:List bQ)(most:Int):Bool:=FL [] l&&decide ((l.length:Int)<=most)
def KA(f:Fun):Bool:=dY f.name&&jE f.params 6&&bZ f.result&&Lj f.body&&(gh f.effects 15== 0)
def vF:List az->List Fun->Bool
 |_,[]=>true
 |seen,f:: l=>!(seen.contains f.name)&&KA f&&vF (seen++[f.name]) l
def NI:List az->List az->Bool
 |_,[]=>true
 |seen,s:: l=>!(seen.contains s)&&dY s&&NI (seen++[s]) l
def BD(m:Mod):Bool:=dY m.name&&decide (m.uses.length<=12)&&decide (m.funcs.length<=30)&&jE m.vars 8&&(m.init.all Lj&&((m.init.length:Int)== m.vars.length))&&(m.moves||decide (m.old.length=0)) &&
 (jE m.old 8&&(m.forward.all Lj&&((m.forward.length:Int)== (if m.moves=true then(m.vars.length:Int)else 0)))&&(m.back.all Lj&&((m.back.length:Int)== m.old.length)))
def mA(m:Mod):Bool:=NI [] m.uses&&(vF [] m.funcs&&BD m)
theorem tp:(l:List bQ)->(seen:List az)->FL seen l=true->(∀f∈l,dY f.1=true/\bZ f.2=true/\f.1 ∉ seen)/\(l.map (·.1)).Nodup
 |[],seen,_=>⟨fun f h=>(by cases h),List.nodup_nil⟩
 |f:: l,seen,h=>by
  simp only[FL,aaD,abc]at h;obtain⟨⟨⟨h1,h2⟩,h3⟩,h4⟩:=h;obtain⟨i1,i2⟩:=tp l _ h4
  grind
theorem Bv:(l:List Fun)->(seen:List az)->vF seen l=true->(∀f∈l,KA f=true/\f.name ∉ seen)/\(l.map (·.name)).Nodup
 |[],seen,_=>⟨fun f h=>(by cases h),List.nodup_nil⟩
 |f:: l,seen,h=>by
  simp only[vF,aaD,abc]at h;obtain⟨⟨h1,h2⟩,h4⟩:=h;obtain⟨i1,i2⟩:=Bv l _ h4
  grind
structure FunOk (f:Fun):Prop where
 name:dY f.name=true
 plen:f.params.length<=6
 pars:∀z∈f.params,bZ z.2=true
 pnames:(f.params.map (·.1)).Nodup
 res:bZ f.result=true
 body:cX 12 f.body=true
 eff:gh f.effects 15=0
def TC{f:Fun}(h:KA f=true):FunOk f:=by
 unfold KA jE at h;simp only[aaD,aaL,aa9]at h;obtain⟨⟨⟨⟨h1,h2,h3⟩,h4⟩,h5⟩,h6⟩:=h;obtain⟨i1,i2⟩:=tp _ _ h2;exact⟨h1,WD,fun z hz=>(i1 z hz).2.1,i2,h4,h5,h6⟩
structure ModOk (m:Mod):Prop where
 name:dY m.name=true
 ulen:m.uses.length<=12
 flen:m.funcs.length<=30
 fns:∀f∈m.funcs,FunOk f
 fnames:(m.funcs.map (·.name)).Nodup
 vlen:m.vars.length<=8
 vars:∀z∈m.vars,bZ z.2=true
 vnames:(m.vars.map (·.1)).Nodup
 ilen:m.init.length=m.vars.length
 init:∀e∈m.init,cX 12 e=true
 olen:m.old.length<=8
 old:∀z∈m.old,bZ z.2=true
 wlen:m.moves=true->m.forward.length=m.vars.length
 forw:∀e∈m.forward,cX 12 e=true
 blen:m.back.length=m.old.length
 back:∀e∈m.back,cX 12 e=true
def mo{m:Mod}(h:mA m=true):ModOk m:=by
 unfold mA BD jE at h;simp only[aaD,aaL,aa9,aaS,abi]at h;obtain⟨h1,h2,⟨⟨⟨⟨⟨h3,h4⟩,h5⟩,h6,h7⟩,h8,h9⟩,h10⟩,⟨⟨h11,h12⟩,h13,h14⟩,h15,h16⟩:=h;obtain⟨f1,f2⟩:=Bv _ _ h2;obtain⟨v1,v2⟩:=tp _ _ h6;obtain⟨o1,_⟩:=tp _ _ h11;exact⟨h3,h4,h5,fun f hf=>TC (f1 f hf).1,f2,WD,fun z hz=>(v1 z hz).2.1,v2,WD,h8,WD,fun z hz=>(o1 z hz).2.1,fun hm=>qr,h13,WD,h15⟩
open Go.RowKit Go.Sort Go.Proofs in
theorem U4(keys:List az)(n i j:Nat):ltOf (OO keys n) i j=aK keys[i % n]! keys[j % n]!:=by
 unfold ltOf OO ub
 grind
open Go.RowKit Go.Sort Go.Proofs in
def Yt(keys:List az)(n:Nat):SWO (ltOf (OO keys n)):=by
 refine⟨fun x=>?_,fun x y z=>?_,fun x y z=>?_⟩
 ·rw[U4,fV]
 ·grind [U4,fF]
 ·rw[U4,U4,U4];intro h1 h2;cases h3:aK keys[x % n]! keys[z % n]! with
  |false=>rfl
  |true=>
   grind [fF,iK]
open Go.RowKit Go.Sort Go.Proofs in
def FO(keys:List az):(jN keys).Perm (List.range keys.length)/\(jN keys).Pairwise fun i j=>aK keys[j % keys.length]! keys[i % keys.length]! = false:=by
 have h:=pdq_sorts (ltOf (OO keys keys.length)) (Yt keys keys.length) (Array.range keys.length) 0 (Array.range keys.length).size (Lib.bitLen (Array.range keys.length).size) true true (aa1 _) (aaI _) (Or.inl rfl);obtain⟨⟨hs,_,hp⟩,ho⟩:=h;unfold jN;generalize pdq (ltOf (OO keys keys.length)) (Array.range keys.length) 0 (Array.range keys.length).size (Lib.bitLen (Array.range keys.length).size) true true=d at hs hp ho;refine⟨?_,?_⟩
 ·grind [Array.extract_size]
 ·rw[List.pairwise_iff_getElem];intro i j hi hj hij;simp only[abt]at hi hj
  have:=ho i j (aa1 _) hij WD
  grind [U4]
def kQ(l:List Sig):List Sig:=(jN (l.map (·.name))).map fun i=>l[i % l.length]!
def pc(l:List Sig):(kQ l).Perm l:=by
 have h:=(FO (l.map (·.name))).1;rw[abA]at h;have h2:=h.map fun i=>l[i % l.length]!;refine h2.trans ?_;have e:(List.range l.length).map (fun i=>l[i % l.length]!)=l:=by
  apply aco
  ·simp
  ·grind [Nat.mod_eq_of_lt]
 rw[e]
def Gi(f:Fun):Sig:=⟨f.name,f.params.map (·.2),f.result,f.effects⟩
def jL(l:List Fun):List Sig:=(l.filter (·.pub)).map Gi
def Kw{l l':List Sig}(hp:l.Perm l')(hn:(l'.map (·.name)).Nodup)(s:az):l.find? (fun x=>x.name== s)=l'.find? (fun x=>x.name== s):=by
 have hn':(l.map (·.name)).Nodup:=(hp.map _).nodup_iff.2 hn;have uniq:∀ {l:List Sig},(l.map (·.name)).Nodup->∀x∈l,l.find? (fun y=>y.name== x.name)=some x:=by
  intro l
  induction l with
  |nil=>grind
  |cons y l ih=>
   grind
 cases h:l'.find? (fun x=>x.name== s)with
 |none=>
  grind
 |some x=>
  grind
def me:Face:=⟨[],[]⟩
def rV(m:Mod):Face:=if mA m=true then⟨m.name,kQ (jL m.funcs)⟩else me
theorem Qn{m:Mod}(hm:m.Lim):(rV m).Lim:=by
 unfold rV;split
 ·rename_i hr;have hl:(kQ (jL m.funcs)).length<=30:=by
   rw[(pc _).length_eq];unfold jL;rw[abA];exact abK (ac4 _ _) (mo hr).flen
  refine⟨qr,fun s hs=>?_⟩;have hs':s∈jL m.funcs:=(pc _).mem_iff.1 hs;unfold jL at hs';obtain⟨f,hf,rfl⟩:=abe.1 hs';have hf':=hm.fns f (ace.1 hf).1;refine⟨?_,fun t ht=>?_,hf'.result⟩
  ·show (f.params.map (·.2)).length<=_;rw[abA];exact hf'.params
  ·obtain⟨z,hz,rfl⟩:=abe.1 ht;exact hf'.pty z hz
 ·exact⟨Vc,fun s hs=>by cases hs⟩
def gd(m:Mod)(fs:List Face):Tcx:=⟨m.vars,m.funcs,m.uses,fun s=>fs.find? fun f=>f.module== s⟩
def dp:List Face->List Face->List Face
 |acc,[]=>acc
 |acc,f:: fs=>dp (if(acc.find? fun g=>g.module== f.module).isSome=true then acc else acc++[f]) fs
def LA(m:Mod)(fs:List Face):List (az×Int):=m.funcs.map fun f=>(f.name,LC (gd m fs) f)
def rj(m:Mod)(fs:List Face):List (az×Int):=m.uses.map fun u=>(u,if(fs.find? fun f=>f.module== u).isNone||u== m.name then 12 else 0)
def xe(m:Mod)(fs:List Face):az×Int:=if(fs.all kW&&mA m)=true then cL (rj m (dp [] fs)++nB m:: LA m (dp [] fs))else([],1)
theorem Cy:{l:List (az×Int)} ->(cL l).2=0->∀x∈l,x.2=0
 |[],_,x,hx=>by cases hx
 | y:: l,h,x,hx=>by
  unfold cL at h;split at h
  ·rename_i hy;rcases aaT.1 hx with rfl|hx
   ·exact hy
   ·exact Cy h x hx
  grind
def vO(h:qg e=true):(e.op=0/\e.args.length=0)\/(e.op=1/\e.args.length=0/\(e.n=0\/e.n=1))\/(e.op=2/\e.args.length=0)\/((e.op=3\/e.op=4\/e.op=5\/e.op=6\/e.op=7)/\e.args.length=2)\/((e.op=8\/e.op=9)/\e.args.length=2)\/(e.op=10/\e.args.length=1)\/(e.op=11/\e.args.length=3)\/(e.op=12/\e.args.length=2)\/(e.op=13/\e.names.length=e.args.length/\yA e.names=true)\/(e.op=14/\e.args.length=1)\/e.op=15\/(e.op=16/\e.args.length=1/\(e.n=1\/e.n=2\/e.n=4\/e.n=8))\/(e.op=17/\e.args.length=0)\/(e.op=18/\e.args.length=1):=by
 have hb:0<=e.op/\e.op<19:=by
  unfold qg at h;simp only[aaD,aaL]at h;exact⟨h.1.1.1.1.1.1.1,h.1.1.1.1.1.1.2⟩
 have ho:e.op=0\/e.op=1\/e.op=2\/e.op=3\/e.op=4\/e.op=5\/e.op=6\/e.op=7\/e.op=8\/e.op=9\/e.op=10\/e.op=11\/e.op=12\/e.op=13\/e.op=14\/e.op=15\/e.op=16\/e.op=17\/e.op=18:=WD
 rcases ho with o|o|o|o|o|o|o|o|o|o|o|o|o|o|o|o|o|o|o<;>simp[qg,iS,je,o,-List.length_eq_zero_iff]at h|- <;> first|omega|grind
def bv(n:Int):BitVec 64:=BitVec.ofInt 64 n
def lW(a b:Int):Prop:=bv a ||| bv b=bv b
def lW.refl(a:Int):lW a a:=acL
variable {b:Int}
def lW.trans{c:Int}(h1:lW a b)(h2:lW b c):lW a c:=by
 unfold lW at *;rw[<- h2,<- acF,h1]
theorem IU(b:BitVec 64):bv (IntKind.i64.wrap b.toNat)=b:=by
 unfold bv;have h:IntKind.i64.wrap b.toNat=b.toInt:=by
  have h:=b.isLt;rw[BitVec.toInt_eq_toNat_cond];have h1:(2:Int) ^ IntKind.i64.bits=18446744073709551616:=rfl;have h2:(2:Int) ^ (IntKind.i64.bits-1)=9223372036854775808:=rfl;have h3:((2 ^ 64:Nat):Int)=18446744073709551616:=rfl;have h4:(b.toNat:Int) % 18446744073709551616=b.toNat:=WD
  simp only[IntKind.wrap,h1,h2,h3,h4];have h5:IntKind.i64.signed=true:=rfl;rw[h5,ach];by_cases hb:2*b.toNat<2 ^ 64
  ·rw[aaH hb,aaC Bk]
  ·rw[aaC hb,aaH Bk]
 rw[h,BitVec.ofInt_toInt]
def Q7(a b:Int):bv (qM a b)=bv a ||| bv b:=IU _
def qI(a b:Int):lW a (qM a b):=by
 unfold lW;rw[Q7,<- acF,acL]
def wC(a b:Int):lW b (qM a b):=by
 unfold lW;rw[Q7,BitVec.or_comm (bv a),<- acF,acL]
def ED(h:gh a b=0):lW a b:=by
 have h1:bv (gh a b)=bv a &&& ~~~ bv b:=IU _;rw[h]at h1;unfold lW;have h2:bv a &&& ~~~ bv b=0#64:=h1.symm
 ext i hi
 have:=aaY (fun x:BitVec 64=>x.getLsbD i) h2
 simp only[BitVec.getLsbD_and,BitVec.getLsbD_not,hi,abj,ach,BitVec.getLsbD_zero]at this;rw[BitVec.getElem_or];simp only[BitVec.getLsbD_eq_getElem hi]at this;cases h1:(bv a)[i]<;>cases h2:(bv b)[i]<;>simp[h1,h2]at this |-
mutual
def ju:Ty->Val->Prop
 |.mk k fs,v=>v.kind=k/\(fs≠[]->k=2)/\xX fs v
def xX:List (az×Ty)->Val->Prop
 |[],_=>True
 |f:: fs,v=>PN f v/\xX fs v
def PN:az×Ty->Val->Prop
 |(n,t),v=>∃x,iv v.names v.values n=some x/\ju t x
end
theorem A6(v:Val):(fs:List bQ)->(xX fs v↔∀f∈fs,PN f v)
 |[]=>by simp[xX]
 |f:: fs=>by simp[xX,A6 v fs]
def M7(f:bQ)(v:Val):PN f v↔∃x,iv v.names v.values f.1=some x/\ju f.2 x:=by
 obtain⟨n,t⟩:=f;simp only[PN]
def gB(t:Ty)(v:Val):ju t v↔v.kind=t.kind/\(t.fields≠[]->t.kind=2)/\∀f∈t.fields,∃x,iv v.names v.values f.1=some x/\ju f.2 x:=by
 cases t with
 |mk k fs=>simp only[ju,A6,M7,Ty.kind,Ty.fields]
theorem kc{α:Type}{p:α->Bool}:{l:List α} ->{z:α} ->bV p l=some z->z∈l/\p z=true
 |[],z,h=>by cases h
 | x:: l,z,h=>by
  simp only[bV]at h;split at h
  ·rename_i y hy;cases h
   have:=kc hy
   exact⟨abb _ this.1,this.2⟩
  ·cases hx:p x with
   |true=>
    rw[hx]at h;cases h;exact⟨abm,hx⟩
   |false=>rw[hx]at h;cases h
theorem nU:∀(d:Nat)(a b:Ty)(v:Val),fC d b=true->cg a b=true->ju a v->ju b v
 |0,_,_,_,h,_,_=>by cases h
 | d+1,a,b,v,h,hb,hv=>by
  rw[kN]at h;rw[Ax]at hb;rw[gB]at hv |-;simp only[aaD,aaS,aa9,abi]at h hb;refine⟨hv.1.trans hb.1,fun hf=>?_,fun f hf=>?_⟩
  ·rcases h.1.2 with h1|h1
   ·exact h1
   ·exact absurd (aaO h1) hf
  ·have h1:=hb.2 f hf;split at h1
   ·rename_i z hz;have h2:=kc hz;obtain⟨x,h3,h4⟩:=hv.2.2 z h2.1;rw[aa9.1 h2.2]at h3;exact⟨x,h3,nU d z.2 f.2 x (h.2.1 f hf).2 h1 h4⟩
   ·cases h1
def OE{f:bQ}{l:List bQ}{g:bQ}(h:UL f l=some g):g.1=f.1/\∃z,z∈l/\z.1=f.1/\zD f.2 z.2=some g.2:=by
 obtain⟨n,t⟩:=f;simp only[UL]at h;split at h
 ·rename_i z hz;split at h
  ·rename_i u hu;cases h
   have:=kc hz
   exact⟨rfl,z,this.1,aa9.1 this.2,hu⟩
  ·cases h
 ·cases h
theorem GC(l:List bQ)(g:bQ):(fs:List bQ)->g∈pr fs l->∃f∈fs,UL f l=some g
 |[],h=>by simp[pr]at h
 | f:: fs,h=>by
  simp only[pr,aba]at h;rcases h with h|h
  ·split at h
   ·rename_i x hx;simp only[abF]at h;exact⟨f,abm,by rw[hx,h]⟩
   ·cases h
  ·obtain⟨f',h1,h2⟩:=GC l g fs h;exact⟨f',abb _ h1,h2⟩
def QU{a b u:Ty}(h:zD a b=some u):a.kind=b.kind/\u.kind=a.kind/\∀g∈u.fields,∃f∈a.fields,∃z∈b.fields,g.1=f.1/\z.1=f.1/\zD f.2 z.2=some g.2:=by
 cases a with
 | mk k fs=>
  simp only[zD]at h;split at h
  ·rename_i hk;cases h;refine⟨hk,rfl,fun g hg=>?_⟩;obtain⟨f,h1,h2⟩:=GC _ g fs hg;obtain⟨h3,z,h4,h5,h6⟩:=OE h2;exact⟨f,h1,z,h4,h3,h5,h6⟩
  ·cases h
def CF(a:Ty)(b u:Ty)(h:zD a b=some u)(v:Val):(ju a v->ju u v)/\(ju b v->ju u v):=by
 obtain⟨h1,h2,h3⟩:=QU h;constructor
 ·intro hv;rw[gB]at hv |-;refine⟨hv.1.trans h2.symm,fun hf=>?_,fun g hg=>?_⟩
  ·obtain⟨g,hg⟩:=ade _ hf;obtain⟨f,hf',_⟩:=h3 g hg;rw[h2];exact hv.2.1 (acS hf')
  ·obtain⟨f,hf,z,hz,e1,e2,e3⟩:=h3 g hg;obtain⟨x,g1,g2⟩:=hv.2.2 f hf
   have:=MU hf
   exact⟨x,by rw[e1];exact g1,(CF f.2 z.2 g.2 e3 x).1 g2⟩
 ·intro hv;rw[gB]at hv |-;refine⟨hv.1.trans (h1.symm.trans h2.symm),fun hf=>?_,fun g hg=>?_⟩
  ·obtain⟨g,hg⟩:=ade _ hf;obtain⟨f,_,z,hz,_⟩:=h3 g hg;rw[h2,h1];exact hv.2.1 (acS hz)
  ·obtain⟨f,hf,z,hz,e1,e2,e3⟩:=h3 g hg;obtain⟨x,g1,g2⟩:=hv.2.2 z hz
   have:=MU hf
   exact⟨x,by rw[e1,<- e2];exact g1,(CF f.2 z.2 g.2 e3 x).2 g2⟩
termination_by SizeOf.sizeOf a
def pi(x:eG α):Prop:=∀n a n',x n= .ok a n'->lW n n'
def ta(a:α):pi (.ok a):=fun n b n' h=>by cases h;exact lW.refl _
def oU(e:Int):pi (α:=α) (.er e):=fun n b n' h=>by cases h
variable {n':Int}
def bind_ok{x:eG α}{f:α->eG β}{n:Int}{b:β}(h:eG.bind x f n= .ok b n'):∃a m,x n= .ok a m/\f a m= .ok b n':=by
 unfold eG.bind at h;split at h
 ·rename_i a m hm;exact⟨a,m,hm,h⟩
 ·cases h
def lP{x:eG α}{f:α->eG β}(hx:pi x)(hf:∀a,pi (f a)):pi (.bind x f):=fun n b n' h=>by
 obtain⟨a,m,h1,h2⟩:=bind_ok h;exact (hx _ _ _ h1).trans (hf a _ _ _ h2)
def kJ{c:Prop}[Decidable c]{x y:eG α}(h1:pi x)(h2:pi y):pi (if c then x else y):=by
 split
 ·exact h1
 ·exact h2
theorem oe{r:Exp->eG Ty}(h:∀e,pi (r e)):∀l,pi (dG r l)
 |[]=>ta _
 |e:: l=>lP (h e) fun _=>lP (oe h l) fun _=>ta _
theorem og(c:Tcx):∀(d:Nat)(ls:List bQ)(e:Exp),pi (bk c d ls e)
 |0,_,_=>oU _
 | d+1,ls,e=>by
  have H:=og c d;show pi (b9 c (bk c d) ls e);unfold b9;refine kJ ?_ (kJ ?_ (kJ ?_ (kJ ?_ ?_)))
  ·split
   ·exact ta _
   ·exact oU _
  ·exact lP (H _ _) fun _=>H _ _
  ·split
   ·exact oU _
   ·exact kJ (lP (H _ _) fun _=>kJ (ta _) (oU _)) (ta _)
  ·split
   ·exact oU _
   ·refine kJ (lP (oe (H _) _) fun _=>kJ (fun n a n' h=>?_) (oU _)) (oU _);cases h;exact qI _ _
  ·refine lP (oe (H _) _) fun l n a n' h=>?_;split at h
   ·cases h;split
    ·exact qI _ _
    ·exact lW.refl _
   ·cases h
def oB:List bQ->List az->List Val->Prop
 |[],[],[]=>True
 |z:: ls,n:: ns,v:: vs=>z.1=n/\ju z.2 v/\oB ls ns vs
 |_,_,_=>False
theorem zc{s:az}:{ls:List bQ} ->{ns:List az} ->{vs:List Val} ->oB ls ns vs->(∀z,bV (fun z=>z.1== s) ls=some z->∃v,iE ns vs s=some v/\ju z.2 v)/\(bV (fun z=>z.1== s) ls=none->iE ns vs s=none)
 |[],[],[],_=>⟨(fun z h=>by cases h),fun _=>rfl⟩
 | y :: ls,n:: ns,v:: vs,h=>by
  obtain⟨h1,h2,h3⟩:=h;obtain⟨i1,i2⟩:=zc (s:=s) h3;constructor
  ·intro z hz;simp only[bV]at hz;simp only[iE];split at hz
   ·rename_i w hw;cases hz;obtain⟨x,g1,g2⟩:=i1 z hw;exact⟨x,by rw[g1],g2⟩
   ·rename_i hw;rw[i2 hw];cases hy:y.1== s with
    |true=>
     rw[hy]at hz;cases hz;exact⟨v,by rw[aaH (h1.symm.trans (aa9.1 hy))],h2⟩
    |false=>rw[hy]at hz;cases hz
  ·intro hz;simp only[bV]at hz;simp only[iE];split at hz
   ·cases hz
   ·rename_i hw;rw[i2 hw];cases hy:y.1== s with
    |true=>rw[hy]at hz;cases hz
    |false=>rw[aaC (fun e=>by rw[h1,e,abU]at hy;cases hy)]
theorem BH{n:az}{t:Ty}{v:Val}(hv:ju t v):{ls:List bQ} ->{ns:List az} ->{vs:List Val} ->oB ls ns vs->oB (ls++[(n,t)]) (ns++[n]) (vs++[v])
 |[],[],[],_=>⟨rfl,hv,trivial⟩
 |_:: _,_:: _,_:: _,h=>⟨h.1,h.2.1,BH hv h.2.2⟩
theorem Gf:{ls:List bQ} ->{vs:List Val} ->ls.length=vs.length->(∀(i:Nat)(z:bQ)(v:Val),ls[i]? = some z->vs[i]? = some v->ju z.2 v)->oB ls (ls.map (·.1)) vs
 |[],[],_,_=>trivial
 |z:: ls,v:: vs,hl,h=>⟨rfl,h 0 z v rfl rfl,Gf (by simpa using hl) fun i z v h1 h2=>h (i+1) z v (by simpa using h1) (by simpa using h2)⟩
def RD(p:List Mod)(st:List (List Val)):Prop:=st.length=p.length/\∀(i:Nat)(m:Mod)(l:List Val),p[i]? = some m->st[i]? = some l->l.length=m.vars.length/\∀(k:Nat)(z:bQ)(v:Val),m.vars[k]? = some z->l[k]? = some v->ju z.2 v
def Yy(b:Int)(d:Deed):Prop:=lW d.effect b/\(d.effect=1\/d.effect=2\/d.effect=4\/d.effect=8)
def SQ(p:List Mod)(b:Int)(x:X α)(Q:α->Prop):Prop:=∀m,RD p m.state->RD p (x m).st.state/\(∃ds,(x m).st.deeds=m.deeds++ds/\∀d∈ds,Yy b d)/\(∀e s,x m= .er e s->e=16\/e=6)/\∀a s,x m= .ok a s->Q a
def jO{p:List Mod}{a:α}{Q:α->Prop}(h:Q a):SQ p b (.ok a) Q:=fun m hm=>⟨hm,⟨[],by simp[X.ok,Rs.st],AI⟩,(fun e s h=>by cases h),fun b s e=>by cases e;exact h⟩
def JF{p:List Mod}{e:Int}{Q:α->Prop}(h:e=16\/e=6):SQ p b (.er e) Q:=fun m hm=>⟨hm,⟨[],by simp[X.er,Rs.st],AI⟩,(fun e s h'=>by cases h';exact h),fun b s e=>by cases e⟩
theorem Yy.mono{c:Int}(h:lW b c){d:Deed}(hd:Yy b d):Yy c d:=⟨hd.1.trans h,hd.2⟩
def jI{p:List Mod}{c:Int}{x:X α}{Q R:α->Prop}(h:SQ p b x Q)(hb:lW b c)(hq:∀a,Q a->R a):SQ p c x R:=fun m hm=>by
 obtain⟨h1,⟨ds,h2,h3⟩,h4,h5⟩:=h m hm;exact⟨h1,⟨ds,h2,fun d hd=>(h3 d hd).mono hb⟩,h4,fun a s e=>hq a (h5 a s e)⟩
def fO{p:List Mod}{x:X α}{f:α->X β}{Q:α->Prop}{R:β->Prop}(hx:SQ p b x Q)(hf:∀a,Q a->SQ p b (f a) R):SQ p b (x.bind f) R:=by
 intro m hm;obtain⟨h1,⟨ds,h2,h3⟩,h4,h5⟩:=hx m hm;cases hr:x m with
 |er e s=>
  rw[hr]at h1 h2;simp only[X.bind,hr];exact⟨h1,⟨ds,h2,h3⟩,(fun e' s' h=>by cases h;exact h4 _ _ hr),fun b s e=>by cases e⟩
 |ok a s=>
  rw[hr]at h1 h2;obtain⟨g1,⟨es,g2,g3⟩,g4,g5⟩:=hf a (h5 a s hr) s h1;simp only[X.bind,hr];refine⟨g1,⟨ds++es,by rw[g2];simp only[Rs.st]at h2;rw[h2,ab0],fun d hd=>?_⟩,g4,g5⟩;rcases aba.1 hd with h|h
  ·exact h3 d h
  ·exact g3 d h
def Ip{p:List Mod}{c:Prop}[Decidable c]{x y:X α}{Q:α->Prop}(h1:c->SQ p b x Q)(h2:¬c->SQ p b y Q):SQ p b (if c then x else y) Q:=by
 split
 ·exact h1 ‹_›
 ·exact h2 ‹_›
structure Wt (p:List Mod) (C:Int->Tcx):Prop where
 call:∀(own:Int)(e:Exp)(s:List Ty×Ty×Int),dm (C own) e=some s->∃f,eu p (if e.m=[]then own else modAt p e.m) e.s=some f/\(e.m=[]\/f.pub=true)/\f.params.map (·.2)=s.1/\f.result=s.2.1/\f.effects=s.2.2
 fn:∀(a:Int)(s:az)(f:Fun),eu p a s=some f->(∀z∈f.params,bZ z.2=true)/\bZ f.result=true/\cX 12 f.body=true/\∃t n,bk (C a) 12 f.params f.body 0= .ok t n/\cg t f.result=true/\gh n f.effects=0
 var:∀(own:Int)(s:az)(z:bQ),bV (fun z=>z.1== s) (C own).vars=some z->¬own<0/\own.toNat<p.length/\∃i:Nat,mh (p[own.toNat]?.getD default).vars s=i/\(p[own.toNat]?.getD default).vars[i]? = some z/\bZ z.2=true
def VK(p:List Mod)(g:Nat)(c:Tcx)(own:Int)(d:Nat):Prop:=∀(ls:List bQ)(e:Exp)(n n':Int)(t:Ty),cX d e=true->bk c d ls e n= .ok t n'->∀ns vs,oB ls ns vs->SQ p n' (aR p g own ns vs e) (ju t)
theorem JG{p:List Mod}{g:Nat}{c:Tcx}{own:Int}{d:Nat}(S:VK p g c own d){ls:List bQ}{ns:List az}{vs:List Val}(hs:oB ls ns vs):∀(l:List Exp)(n n':Int)(ts:List Ty),l.all (cX d)=true->dG (bk c d ls) l n= .ok ts n'->ts.length=l.length/\SQ p n' (listX (aR p g own ns vs) l) fun ws=>ws.length=ts.length/\∀(i:Nat)(t:Ty)(w:Val),ts[i]? = some t->ws[i]? = some w->ju t w
 |[],n,n',ts,_,h=>by
  cases h;exact⟨rfl,jO ⟨rfl,fun i t w h=>by simp at h⟩⟩
 |e:: l,n,n',ts,hr,h=>by
  simp only[abf,aaD]at hr;obtain⟨t,m,h1,h2⟩:=bind_ok h;obtain⟨us,k,h3,h4⟩:=bind_ok h2;cases h4;obtain⟨h5,h6⟩:=JG S hs l m n' us hr.2 h3;refine⟨by simp[h5],fO (jI (S ls e n m t hr.1 h1 ns vs hs) (oe (og c d ls) l _ _ _ h3) fun _ h=>h) fun v hv=>fO h6 fun ws hws=>jO ⟨by simp[hws.1],fun i t w h7 h8=>?_⟩⟩;cases i with
  |zero=>simp at h7 h8;subst h7 h8;exact hv
  |succ i=>exact hws.2 i t w (by simpa using h7) (by simpa using h8)
def sS(n:Int):ju (.mk 0 []) (pX n):=by simp[ju,xX,pX]
def nV(b:Bool):ju (.mk 1 []) (iz b):=by simp[ju,xX,iz]
def wB{p:List Mod}{x:X Val}{Q:Val->Prop}(h:SQ p b x Q)(hk:∀v,Q v->v.kind=1):SQ p b (boolX x) fun _=>True:=fO h fun v hv=>by
 rw[aaH (hk v hv)];exact jO trivial
theorem wu:{l:List α} ->l.length=1->∃a,l=[a]
 |[a],_=>⟨a,rfl⟩
theorem CK:{l:List α} ->l.length=2->∃a b,l=[a,b]
 |[a,b],_=>⟨a,b,rfl⟩
theorem KR:{l:List α} ->l.length=3->∃a b c,l=[a,b,c]
 |[a,b,c],_=>⟨a,b,c,rfl⟩
def Ji{r:Exp->eG Ty}{a:Exp}{n:Int}{ts:List Ty}(h:dG r [a] n= .ok ts n'):∃t,ts=[t]/\r a n= .ok t n':=by
 obtain⟨t,m,h1,h2⟩:=bind_ok h;obtain⟨us,k,h3,h4⟩:=bind_ok h2;cases h3;cases h4;exact⟨t,rfl,h1⟩
def Nn{r:Exp->eG Ty}{a b:Exp}{n:Int}{ts:List Ty}(h:dG r [a,b] n= .ok ts n'):∃t u m,ts=[t,u]/\r a n= .ok t m/\r b m= .ok u n':=by
 obtain⟨t,m,h1,h2⟩:=bind_ok h;obtain⟨us,k,h3,h4⟩:=bind_ok h2;cases h4;obtain⟨u,rfl,h5⟩:=Ji h3;exact⟨t,u,m,rfl,h1,h5⟩
def XQ{r:Exp->eG Ty}{a b c:Exp}{n:Int}{ts:List Ty}(h:dG r [a,b,c] n= .ok ts n'):∃t u w m k,ts=[t,u,w]/\r a n= .ok t m/\r b m= .ok u k/\r c k= .ok w n':=by
 obtain⟨t,m,h1,h2⟩:=bind_ok h;obtain⟨us,k,h3,h4⟩:=bind_ok h2;cases h4;obtain⟨u,w,k',rfl,h5,h6⟩:=Nn h3;exact⟨t,u,w,m,k',rfl,h1,h5,h6⟩
def QK{p:List Mod}{y:X Val}{Q:Val->Prop}(h:SQ p b y Q):SQ p b (ji y) Q:=fun m hm=>by
 unfold ji X.get;by_cases hf:m.fuel<=0
 ·simp only[hf,aaV];exact JF (.inl rfl) m hm
 ·simp only[hf,aaR];exact h { m with fuel:=m.fuel-1 } hm
def On{p:List Mod}{C:Int->Tcx}(W:Wt p C){g:Nat}(hg:∀own d,VK p g (C own) own d){s:az}{f:Fun}(hf:eu p a s=some f){l:List Val}(hl:l.length=f.params.length)(hv:∀(i:Nat)(z:bQ)(v:Val),f.params[i]? = some z->l[i]? = some v->ju z.2 v):SQ p f.effects (bT p (aR p g) a f l) (ju f.result):=by
 obtain⟨_,hr,hb,t,n,h1,h2,h3⟩:=W.fn a s f hf;have hs:=Gf hl.symm hv;have hS:=hg a 12 f.params f.body 0 n t hb h1 _ _ hs;have key:SQ p f.effects ((aR p g a (f.params.map (·.1)) l f.body).bind fun v=>.upd (fun m=>{ m with frames:=m.frames-1 }) (.ok v)) (ju f.result):=fO (jI hS (ED h3) fun v hv=>nU 4 t f.result v hr h2 hv) fun v hv m hm=>jO (p:=p) (b:=f.effects) hv { m with frames:=m.frames-1 } hm;intro m hm;have e0:bT p (aR p g) a f l m=if m.frames<60 then((aR p g a (f.params.map (·.1)) l f.body).bind fun v=>.upd (fun m=>{ m with frames:=m.frames-1 }) (.ok v)) (jk p a f l m)else .er 6 m:=by
  unfold bT X.get;by_cases h:m.frames<60
  ·simp only[h,aaV];rfl
  ·simp only[h,aaR];rfl
 rw[e0];split
 ·exact key (jk p a f l m) hm
 ·exact JF (p:=p) (b:=f.effects) (.inr rfl) m hm
def TH{p:List Mod}{st:List (List Val)}(h:RD p st){i k:Nat}(hi:i<p.length){z:bQ}(hz:(p[i]?.getD default).vars[k]? = some z):ju z.2 (qV st i k):=by
 obtain⟨h1,h2⟩:=h;have hi':i<st.length:=WD
 rw[aaE hi]at hz;obtain⟨h3,h4⟩:=h2 i p[i] st[i] (aaE hi) (aaE hi');have hk:k<st[i].length:=by rw[h3];exact (aaJ.1 hz).1
 have e:qV st i k=st[i][k]:=by
  unfold qV;simp[abv,aaE hi',aaE hk]
 rw[e];exact h4 k z _ hz (aaE hk)
def UB{p:List Mod}{st:List (List Val)}(h:RD p st){i k:Nat}{z:bQ}(hz:(p[i]?.getD default).vars[k]? = some z){v:Val}(hv:ju z.2 v):RD p (setSt st i k v):=by
 refine⟨by unfold setSt;rw[List.length_modify];exact h.1,fun j m l hm hl=>?_⟩;unfold setSt at hl;rw[List.getElem?_modify]at hl;cases h1:st[j]? with
 |none=>simp[h1]at hl
 | some l0=>
  rw[h1]at hl;simp only[Option.map_eq_map,abq,aaB]at hl;obtain⟨h2,h3⟩:=h.2 j m l0 hm h1;split at hl
  ·rename_i e;subst e hl;refine⟨by simpa using h2,fun n y w hy hw=>?_⟩;rw[abL]at hw;split at hw
   ·rename_i e;subst e;split at hw
    ·cases hw;rw[hm,ab6,hy]at hz;cases hz;exact hv
    ·cases hw
   ·exact h3 n y w hy hw
  ·subst hl;exact⟨h2,h3⟩
theorem AO{s:az}{w:Val}:{ns:List az} ->{ws:List Val} ->(ns.Pairwise fun x y=>aK x y=true)->{i:Nat} ->ns[i]? = some s->ws[i]? = some w->iv ns ws s=some w
 |n:: ns,x:: ws,hp,0,h1,h2=>by
  simp at h1 h2;subst h1 h2;simp[iv]
 |n:: ns,x:: ws,hp,i+1,h1,h2=>by
  rw[List.pairwise_cons]at hp;have h3:=hp.1 s (abg (by simpa using h1));have h4:¬n=s:=fun e=>by rw[e,fV]at h3;cases h3
  simp only[iv,aaC h4];exact AO hp.2 (by simpa using h1) (by simpa using h2)
 |[],_,_,i,h1,_=>by simp at h1
 |_:: _,[],_,i,_,h2=>by simp at h2
theorem L9:(l:List az)->pE gH l=true->J4 l=true
 |[],_=>rfl
 |[_],_=>rfl
 |x:: y:: l,h=>by
  simp only[pE,aaD]at h;simp only[J4,aaD];exact⟨(wQ x y).1 h.1,L9 (y:: l) h.2⟩
def kg{r:List bQ->Exp->eG Ty}{n:Int}{t:Ty}(hf:b9 c r ls e n= .ok t n')(h2:¬e.op=2)(h12:¬e.op=12)(h17:¬(e.op=17\/e.op=18))(h15:¬e.op=15)(h16:¬e.op=16):eG.bind (dG (r ls) e.args) (fun l n=>match bP e l with|some t=>.ok t n|none=>.er 13 n) n= .ok t n':=by
 rw[<- hf];unfold b9;simp only[aaC h2,aaC h12,aaC h17,aaC h15,aaC h16]
 all_goals rfl
def kh{l:List Ty}{k:Int}{t:Ty}(h:(match bP e l with|some t=>Tr.ok t k|none=>.er 13 k)= .ok t n'):bP e l=some t/\k=n':=by
 split at h
 ·cases h;exact⟨‹_›,rfl⟩
 ·cases h
def Om{p:List Mod}{C:Int->Tcx}(W:Wt p C){g:Nat}(hg:∀own d,VK p g (C own) own d)(own:Int)(d:Nat):VK p (g+1) (C own) own (d+1):=by
 intro ls e n n' t hr hf ns vs hs;rw[nf,aaD]at hr;obtain⟨hsh,ha⟩:=hr;have hf:b9 (C own) (bk (C own) d) ls e n= .ok t n':=hf;have H:=hg own d;have M:=og (C own) d;have L:=fun{l:List Exp} {a b:Int} {ts:List Ty}=>JG H hs l a b ts;show SQ p n' (jP p (aR p g) own ns vs e) _;refine QK ?_;rcases vO hsh with⟨o,hl⟩|⟨o,hl,hn⟩|⟨o,hl⟩|⟨o,hl⟩|⟨o,hl⟩|⟨o,hl⟩|⟨o,hl⟩|⟨o,hl⟩|⟨o,hl,hnb⟩|⟨o,hl⟩|o|⟨o,hl,hn⟩|⟨o,hl⟩|⟨o,hl⟩
 ·-- a number
  obtain hl:=aaO hl;simp[b9,o,hl,dG,eG.bind,eG.ok,bP]at hf;obtain⟨rfl,rfl⟩:=hf;simp only[aE,o,hl];exact jO (sS _)
 ·obtain hl:=aaO hl;simp[b9,o,hl,dG,eG.bind,eG.ok,bP]at hf;obtain⟨rfl,rfl⟩:=hf;simp[aE,o,hl,hn];exact jO (nV _)
 ·obtain hl:=aaO hl;have hf:(match bV (fun z:bQ=>z.1== e.s) ls with|some z=>eG.ok z.2|none=>.er 12) n= .ok t n':=by
   rw[<- hf];unfold b9;rw[aaH o];all_goals rfl
  cases hz:bV (fun z:bQ=>z.1== e.s) ls with
  |none=>rw[hz]at hf;cases hf
  |some z=>
   rw[hz]at hf;cases hf;obtain⟨v,h1,h2⟩:=(zc hs).1 z hz;simp[aE,o,hl,h1];exact jO h2
 ·obtain⟨x,y,hl⟩:=CK hl;obtain⟨ts,k,h1,h2⟩:=bind_ok (kg hf WD WD WD WD WD);rw[hl]at h1;obtain⟨t1,t2,m,rfl,h3,h4⟩:=Nn h1;rw[hl]at ha;simp only[abf,acg,abN,aaD]at ha;have s1:=H ls x n m t1 ha.1 h3 ns vs hs;have s2:=H ls y m k t2 ha.2 h4 ns vs hs;obtain⟨hp,rfl⟩:=kh h2;have a0:e.args[0]! = x:=by rw[hl];rfl
  have a1:e.args[1]! = y:=by rw[hl];rfl
  have g1:¬(aE e.op= -2\/(aE e.op≠-1/\aE e.op≠e.args.length)):=by
   rw[hl];rcases o with o|o|o|o|o<;>rw[o]<;>simp[aE]
  have g2:e.op=3\/e.op=4\/e.op=5\/e.op=6\/e.op=7:=o;simp only[aaC g1,show ¬e.op=0 by omega,show ¬e.op=1 by omega,show ¬e.op=2 by omega,aaR,aaH g2,a0,a1];refine fO (jI s1 (M _ _ _ _ _ h4) fun _ h=>h) fun v hv=>fO s2 fun w hw=>?_;have kv:=((gB t1 v).1 hv).1;have kw:=((gB t2 w).1 hw).1;unfold nr;rcases o with o|o|o|o|o<;>simp[bP,o,nq]at hp<;>simp only[o,kv,kw]
  ·obtain⟨⟨q1,q2⟩,rfl⟩:=hp;simp[q1,q2];exact jO (sS _)
  ·obtain⟨⟨q1,q2⟩,rfl⟩:=hp;simp[q1,q2];exact jO (sS _)
  ·obtain⟨⟨q1,q2⟩,rfl⟩:=hp;simp[q1,q2];exact jO (sS _)
  ·obtain⟨⟨q1,q2⟩,rfl⟩:=hp;simp[q1,q2];exact jO (nV _)
  ·obtain⟨q,rfl⟩:=hp;rcases q with⟨q1,q2⟩|⟨q1,q2⟩<;>simp[q1,q2]<;>exact jO (nV _)
 ·obtain⟨x,y,hl⟩:=CK hl;obtain⟨ts,k,h1,h2⟩:=bind_ok (kg hf WD WD WD WD WD);rw[hl]at h1;obtain⟨t1,t2,m,rfl,h3,h4⟩:=Nn h1;rw[hl]at ha;simp only[abf,acg,abN,aaD]at ha;have s1:=H ls x n m t1 ha.1 h3 ns vs hs;have s2:=H ls y m k t2 ha.2 h4 ns vs hs;obtain⟨hp,rfl⟩:=kh h2;have a0:e.args[0]! = x:=by rw[hl];rfl
  have a1:e.args[1]! = y:=by rw[hl];rfl
  have g1:¬(aE e.op= -2\/(aE e.op≠-1/\aE e.op≠e.args.length)):=by
   rw[hl];rcases o with o|o<;>rw[o]<;>simp[aE]
  have hp':(t1.kind=1/\t2.kind=1)/\t= .mk 1 []:=by
   rcases o with o|o<;>simp[bP,o,nq]at hp<;>exact⟨hp.1,hp.2.symm⟩
  obtain⟨⟨q1,q2⟩,rfl⟩:=hp';simp only[aaC g1,show ¬e.op=0 by omega,show ¬e.op=1 by omega,show ¬e.op=2 by omega,show ¬(e.op=3\/e.op=4\/e.op=5\/e.op=6\/e.op=7) by omega,aaR,aaH o,a0,a1];refine fO (wB (jI s1 (M _ _ _ _ _ h4) fun _ h=>h) fun v hv=>((gB t1 v).1 hv).1.trans q1) fun v _=>Ip (fun _=>jO (nV _)) fun _=>?_;exact fO (wB s2 fun v hv=>((gB t2 v).1 hv).1.trans q2) fun w _=>jO (nV _)
 ·obtain⟨x,hl⟩:=wu hl;obtain⟨ts,k,h1,h2⟩:=bind_ok (kg hf WD WD WD WD WD);rw[hl]at h1;obtain⟨t1,rfl,h3⟩:=Ji h1;rw[hl]at ha;simp only[abf,acg,abN]at ha;have s1:=H ls x n k t1 ha h3 ns vs hs;obtain⟨hp,rfl⟩:=kh h2;have a0:e.args[0]! = x:=by rw[hl];rfl
  have hp':t1.kind=1/\t= .mk 1 []:=by
   simp[bP,o,nq]at hp;exact⟨hp.1,hp.2.symm⟩
  obtain⟨q1,rfl⟩:=hp';simp[aE,o,hl];exact fO (wB s1 fun v hv=>((gB t1 v).1 hv).1.trans q1) fun w _=>jO (nV _)
 ·obtain⟨x,y,z,hl⟩:=KR hl;obtain⟨ts,k,h1,h2⟩:=bind_ok (kg hf WD WD WD WD WD);rw[hl]at h1;obtain⟨t1,t2,t3,m1,m2,rfl,h3,h4,h5⟩:=XQ h1;rw[hl]at ha;simp only[abf,acg,abN,aaD]at ha;have s1:=H ls x n m1 t1 ha.1 h3 ns vs hs;have s2:=H ls y m1 m2 t2 ha.2.1 h4 ns vs hs;have s3:=H ls z m2 k t3 ha.2.2 h5 ns vs hs;obtain⟨hp,rfl⟩:=kh h2;have a0:e.args[0]! = x:=by rw[hl];rfl
  have a1:e.args[1]! = y:=by rw[hl];rfl
  have a2:e.args[2]! = z:=by rw[hl];rfl
  have hp':t1.kind=1/\zD t2 t3=some t:=by
   have hp:(match zD t2 t3 with|some u=>if t1.kind=1 then some u else none|none=>none)=some t:=by
    rw[<- hp];unfold bP;simp only[o,Int.reduceEq,or_self,aaR,aaV];rfl
   split at hp
   ·rename_i u hu;split at hp
    ·cases hp;exact⟨‹_›,hu⟩
    ·cases hp
   ·cases hp
  obtain⟨q1,q2⟩:=hp';simp[aE,o,hl];refine fO (wB (jI s1 ((M _ _ _ _ _ h4).trans (M _ _ _ _ _ h5)) fun _ h=>h) fun v hv=>((gB t1 v).1 hv).1.trans q1) fun v _=>Ip (fun _=>?_) fun _=>?_
  ·exact jI s2 (M _ _ _ _ _ h5) fun v hv=>(CF t2 t3 t q2 v).1 hv
  ·exact jI s3 (lW.refl _) fun v hv=>(CF t2 t3 t q2 v).2 hv
 ·obtain⟨x,y,hl⟩:=CK hl;have a0:e.args[0]! = x:=by rw[hl];rfl
  have a1:e.args[1]! = y:=by rw[hl];rfl
  have hf:eG.bind (bk (C own) d ls e.args[0]!) (fun t=>bk (C own) d (ls++[(e.s,t)]) e.args[1]!) n= .ok t n':=by
   rw[<- hf];unfold b9;rw[aaC WD,aaH o]
  rw[a0,a1]at hf;obtain⟨t1,k,h1,h2⟩:=bind_ok hf;rw[hl]at ha;simp only[abf,acg,abN,aaD]at ha;simp[aE,o,hl];exact fO (jI (H ls x n k t1 ha.1 h1 ns vs hs) (M _ _ _ _ _ h2) fun _ h=>h) fun v hv=>H _ y k n' t ha.2 h2 _ _ (BH hv hs)
 ·obtain⟨ts,k,h1,h2⟩:=bind_ok (kg hf WD WD WD WD WD);obtain⟨hp,rfl⟩:=kh h2;obtain⟨g1,g2⟩:=L ha h1;have ht:t= .mk 2 (e.names.zip ts):=by simp[bP,o]at hp;exact hp.symm
  subst ht;unfold yA at hnb;simp only[aaD,aaL]at hnb;have hpw:e.names.Pairwise fun x y=>aK x y=true:=Ar (nm:=id) (fun x y h=>(wQ x y).1 h) _ hnb.1.2;simp[aE,o,-aat];unfold im;rw[aaH ⟨hl,L9 _ hnb.1.2⟩,aaH hnb.2];refine fO g2 fun ws hws=>Ip (fun _=>jO ?_) fun _=>JF (.inr rfl);rw[gB];refine⟨rfl,fun _=>rfl,fun f hf=>?_⟩;obtain⟨i,hi⟩:=acK.1 (show f∈e.names.zip ts from hf);rw[List.getElem?_zip_eq_some]at hi;have hiw:i<ws.length:=by rw[hws.1];exact (aaJ.1 hi.2).1
  exact⟨ws[i],AO hpw hi.1 (aaE hiw),hws.2 i f.2 ws[i] hi.2 (aaE hiw)⟩
 ·obtain⟨x,hl⟩:=wu hl;obtain⟨ts,k,h1,h2⟩:=bind_ok (kg hf WD WD WD WD WD);rw[hl]at h1;obtain⟨t1,rfl,h3⟩:=Ji h1;rw[hl]at ha;simp only[abf,acg,abN]at ha;have s1:=H ls x n k t1 ha h3 ns vs hs;obtain⟨hp,rfl⟩:=kh h2;have a0:e.args[0]! = x:=by rw[hl];rfl
  have hp:(match bV (fun z:bQ=>z.1== e.s) t1.fields with|some z=>some z.2|none=>none)=some t:=by
   rw[<- hp];unfold bP;simp only[o,Int.reduceEq,or_self,aaR,aaV];rfl
  split at hp
  ·rename_i z hz;cases hp;have hz':=kc hz;simp[aE,o,hl];refine fO s1 fun v hv=>?_;rw[gB]at hv;obtain⟨w,g1,g2⟩:=hv.2.2 z hz'.1;rw[aa9.1 hz'.2]at g1;rw[g1];simp only[aaH (hv.1.trans (hv.2.1 (acS hz'.1)))];exact jO g2
  ·cases hp
 ·have hf:(match dm (C own) e with
    |none=>eG.er 12
    |some s=>if s.1.length=e.args.length then .bind (dG (bk (C own) d ls) e.args) fun l=>if jX cg l s.1=true then fun n=>.ok s.2.1 (qM n s.2.2)else .er 13 else .er 13) n= .ok t n':=by
   rw[<- hf];unfold b9;rw[aaC WD,aaC WD,aaC WD,aaH o]
   all_goals rfl
  cases hcs:dm (C own) e with
  |none=>rw[hcs]at hf;cases hf
  | some s=>
   rw[hcs]at hf;dsimp only at hf;split at hf
   ·rename_i hlen;obtain⟨ts,k,h1,h2⟩:=bind_ok hf;split at h2
    ·rename_i hbl;cases h2;obtain⟨f,f1,f2,f3,f4,f5⟩:=W.call own e s hcs;obtain⟨g1,g2⟩:=L ha h1;have hpl:e.args.length=f.params.length:=by rw[<- hlen,<- f3,abA]
     simp[aE,o];unfold nL;simp only;have f1':=f1;simp only[f1,aaH f2,aaH hpl];refine fO (jI g2 (qI _ _) fun _ h=>h) fun l hlv=>?_;rw[<- f5,<- f4];obtain⟨w1,w2,_⟩:=W.fn _ _ f f1;obtain⟨b1,b2⟩:=tX hbl;refine jI (On W hg f1 (by rw[hlv.1,b1,<- f3,abA]) fun i z v hz hv=>?_) (wC _ _) fun _ h=>h;have hi:i<ts.length:=by rw[<- hlv.1];exact (aaJ.1 hv).1
     have hz':s.1[i]? = some z.2:=by rw[<- f3,aby,hz];rfl
     exact nU 4 ts[i] z.2 v (w1 z (abg hz)) (b2 i _ _ (aaE hi) hz') (hlv.2 i _ v (aaE hi) hv)
    ·cases h2
   ·cases hf
 ·obtain⟨x,hl⟩:=wu hl;have hf:eG.bind (dG (bk (C own) d ls) e.args) (fun l n=>match bP e l with|some t=>.ok t (if e.op=16 then qM n e.n else n)|none=>.er 13 (if e.op=16 then qM n e.n else n)) n= .ok t n':=by
   rw[<- hf];unfold b9;rw[aaC WD,aaC WD,aaC WD,aaC WD];all_goals rfl
  obtain⟨ts,k,h1,h2⟩:=bind_ok hf;rw[hl]at h1;obtain⟨t1,rfl,h3⟩:=Ji h1;rw[hl]at ha;simp only[abf,acg,abN]at ha;have s1:=H ls x n k t1 ha h3 ns vs hs;have hk:n'=qM k e.n/\bP e [t1]=some t:=by
   split at h2<;>cases h2;exact⟨by rw[aaH o],‹_›⟩
  obtain⟨rfl,hp⟩:=hk;have a0:e.args[0]! = x:=by rw[hl];rfl
  have hp':t1.kind=0/\t= .mk 0 []:=by
   simp[bP,o,nq]at hp;exact⟨hp.1,hp.2.symm⟩
  obtain⟨q1,rfl⟩:=hp';simp[aE,o,hl];unfold tW;refine fO (jI s1 (qI _ _) fun _ h=>h) fun v hv=>?_;rw[aaH (((gB t1 v).1 hv).1.trans q1),aaH hn];intro m hm;exact⟨hm,⟨[⟨e.n,v.n,m.world.headD 0⟩],rfl,(fun d hd=>by rw[abF]at hd;subst hd;exact⟨wC _ _,hn⟩)⟩,(fun e s h=>by cases h),fun a s h=>by cases h;exact sS _⟩
 ·have hf:(match bV (fun z:bQ=>z.1== e.s) (C own).vars with
    |none=>eG.er 12
    |some z=>if e.op=18 then .bind (bk (C own) d ls e.args[0]!) fun u=>if cg u z.2=true then .ok z.2 else .er 13 else .ok z.2) n= .ok t n':=by
   rw[<- hf];unfold b9;rw[aaC WD,aaC WD,aaH (.inl o)]
   all_goals rfl
  cases hz:bV (fun z:bQ=>z.1== e.s) (C own).vars with
  |none=>rw[hz]at hf;cases hf
  |some z=>
   rw[hz]at hf;dsimp only at hf;rw[aaC WD]at hf;cases hf;obtain⟨w1,w2,i,w3,w4,_⟩:=W.var own e.s z hz;simp[aE,o,hl];unfold tP;rw[aaC w1];simp only[w3];rw[aaC WD,aaC WD];intro m hm;exact jO (p:=p) (b:=n) (by rw[aaP];exact TH hm w2 w4) m hm
 ·obtain⟨x,hl⟩:=wu hl;have a0:e.args[0]! = x:=by rw[hl];rfl
  have hf:(match bV (fun z:bQ=>z.1== e.s) (C own).vars with
    |none=>eG.er 12
    |some z=>if e.op=18 then .bind (bk (C own) d ls e.args[0]!) fun u=>if cg u z.2=true then .ok z.2 else .er 13 else .ok z.2) n= .ok t n':=by
   rw[<- hf];unfold b9;rw[aaC WD,aaC WD,aaH (.inr o)]
   all_goals rfl
  cases hz:bV (fun z:bQ=>z.1== e.s) (C own).vars with
  |none=>rw[hz]at hf;cases hf
  | some z=>
   rw[hz]at hf;dsimp only at hf;rw[aaH o,a0]at hf;obtain⟨u,k,h1,h2⟩:=bind_ok hf;split at h2
   ·rename_i hb;cases h2;rw[hl]at ha;simp only[abf,acg,abN]at ha;obtain⟨w1,w2,i,w3,w4,w5⟩:=W.var own e.s z hz;have g1:¬(aE e.op= -2\/(aE e.op≠-1/\aE e.op≠e.args.length)):=by rw[hl,o];simp[aE]
    simp[aE,o,hl];unfold tP;rw[aaC w1];simp only[w3];rw[aaC WD,aaH o,a0];refine fO (H ls x n n' u ha h1 ns vs hs) fun v hv m hm=>?_;have hv':=nU 4 u z.2 v w5 hb hv;exact⟨UB hm (by rw[aaP];exact w4) hv',⟨[],by simp[X.upd,X.ok,Rs.st],AI⟩,(fun e s h=>by cases h),fun a s h=>by cases h;exact hv'⟩
   ·cases h2
theorem sound{p:List Mod}{C:Int->Tcx}(W:Wt p C):∀(g:Nat)(own:Int)(d:Nat),VK p g (C own) own d
 |0,_,_=>fun _ _ _ _ _ _ _ _ _ _=>JF (.inl rfl)
 |g+1,own,0=>fun _ _ _ _ _ h=>by cases h
 |g+1,own,d+1=>Om W (sound W g) own d
def Ag(c:Tcx)(n':Int)(x:Exp):Prop:=(x.op=16->lW x.n n')/\(x.op=15->∃s,dm c x=some s/\lW s.2.2 n')
theorem Ag.mono{n m:Int}{x:Exp}(h:Ag c n x)(hs:lW n m):Ag c m x:=⟨fun o=>(h.1 o).trans hs,fun o=>by obtain⟨s,a,b⟩:=h.2 o;exact⟨s,a,b.trans hs⟩⟩
def yD{n:Int}{x:Exp}(h1:¬x.op=16)(h2:¬x.op=15):Ag c n x:=⟨fun o=>absurd o h1,fun o=>absurd o h2⟩
def Nts(c:Tcx)(d:Nat):Prop:=∀(ls:List bQ)(e:Exp)(n n':Int)(t:Ty),cX d e=true->bk c d ls e n= .ok t n'->∀x∈gm e,Ag c n' x
theorem yE{c:Tcx}{d:Nat}(H:Nts c d)(ls:List bQ):∀(l:List Exp)(n n':Int)(ts:List Ty),l.all (cX d)=true->dG (bk c d ls) l n= .ok ts n'->∀e∈l,∀x∈gm e,Ag c n' x
 |[],_,_,_,_,_,e,he=>by cases he
 |a:: l,n,n',ts,hr,h,e,he=>by
  rw[abf,aaD]at hr;obtain⟨t,m,h1,h2⟩:=bind_ok h;obtain⟨ts',m',h3,h4⟩:=bind_ok h2;cases h4;intro x hx;rcases aaT.1 he with rfl|he
  ·exact (H ls _ n m t hr.1 h1 x hx).mono (oe (og c d ls) l _ _ _ h3)
  ·exact yE H ls l m _ ts' hr.2 h3 e he x hx
theorem nts(c:Tcx):∀d,Nts c d
 |0=>fun ls e n n' t hr=>by cases hr
 | d + 1=>fun ls e n n' t hr h x hx=>by
  have H:=nts c d;rw[nf,aaD]at hr;obtain⟨hs,ha⟩:=hr;rw[qz,aaT,acZ]at hx;have sc:=vO hs;have h:b9 c (bk c d) ls e n= .ok t n':=h;have h0:e.args.length=0->¬ ∃a∈e.args,x∈gm a:=fun hl ⟨a,h1,_⟩=>by
   grind
  have har:=aaS.1 ha;by_cases o2:e.op=2
  ·rcases hx with rfl|hx
   all_goals simp_all[yD]
  by_cases o12:e.op=12
  ·rw[zm o12]at h;obtain⟨t1,m,h1,h2⟩:=bind_ok h;have hl:e.args.length=2:=WD
   obtain⟨a,b,hab⟩:∃a b,e.args=[a,b]:=by
    rcases he:e.args with _|⟨a,_|⟨b,_|⟨z,l⟩⟩⟩<;>rw[he]at hl<;>simp at hl
    grind
   rcases hx with rfl|⟨y,hy,hx⟩
   ·exact yD WD WD
   ·rw[hab]at hy h1 h2 har;simp only[aaT,acB,adk]at hy;rcases hy with rfl|rfl
    ·exact (H _ _ _ _ _ (har _ AI) h1 x hx).mono (og c d _ _ _ _ _ h2)
    ·exact H _ _ _ _ _ (har _ AI) h2 x hx
  by_cases o17:e.op=17\/e.op=18
  ·rw [zl o17]at h;rcases hx with rfl|hx
   ·exact yD WD WD
   ·by_cases o18:e.op=18
    ·split at h
     ·cases h
     ·rw[aaH o18]at h;obtain⟨u,m,h1,h2⟩:=bind_ok h;have hl:e.args.length=1:=WD
      obtain⟨a,hab⟩:∃a,e.args=[a]:=List.length_eq_one_iff.1 hl;obtain⟨y,hy,hx⟩:=hx;rw[hab]at hy h1 har;rw[abF]at hy;subst hy
      have:=H _ _ _ _ _ (har _ AI) h1 x hx
      split at h2
      ·cases h2;exact this
      ·cases h2
    grind
  by_cases o15:e.op=15
  ·rw [vQ o15]at h;split at h
   ·cases h
   ·rename_i s hcal;split at h
    ·obtain⟨l,m,h1,h2⟩:=bind_ok h;split at h2
     ·cases h2;rcases hx with rfl|⟨y,hy,hx⟩
      ·exact⟨fun o=>WD,fun _=>⟨s,hcal,wC _ _⟩⟩
      ·exact (yE H ls _ _ _ _ ha h1 y hy x hx).mono (qI _ _)
     ·cases h2
    ·cases h
  ·rw[vR o2 o12 o17 o15]at h;obtain⟨l,m,h1,h2⟩:=bind_ok h;have hm:(e.op=16->n'=qM m e.n)/\(¬e.op=16->n'=m):=by
    cases hp:bP e l with
    |none=>rw[r9 hp]at h2;cases h2
    |some u=>rw[sa hp]at h2;grind
   rcases hx with rfl|⟨y,hy,hx⟩
   ·exact⟨fun o=>by rw[hm.1 o];exact wC _ _,fun o=>absurd o o15⟩
   ·have:=yE H ls _ _ _ _ ha h1 y hy x hx
    by_cases o:e.op=16
    ·rw[hm.1 o];exact this.mono (qI _ _)
    grind
theorem mg{α:Type}(key:α->az):{l:List α} ->(l.map key).Nodup->∀ {x},x∈l->l.find? (fun y=>key y== key x)=some x
 |[],_,x,hx=>by cases hx
 | y:: l,hn,x,hx=>by
  rw[aa0,ab4]at hn;rcases aaT.1 hx with rfl|hx
  ·grind
  ·have:(key y== key x)=false:=aaN.2 fun h=>hn.1 qr;rw[abG];simp only[this];exact mg key hn.2 hx
theorem OI:Wt [] (fun _=>wd) where
 call:=fun own e s h=>by
  grind [dm,wd]
 fn:=fun a s f h=>by
  unfold eu at h;split at h
  ·cases h
  ·have hd:(default:Mod).funcs=[]:=rfl
   grind
 var:=fun own s z h=>by cases h
def Lf{want:Ty}(h:po ls e want=0):∃t,bk wd 12 ls e 0= .ok t 0/\cg t want=true:=by
 unfold po at h;cases hx:bk wd 12 ls e 0 with
 |er b n=>rw[hx]at h;exact absurd h (kB wd 12 ls e 0 b n hx)
 |ok t n=>
  grind
def Kt{want:Ty}(hr:cX 12 e=true)(hw:bZ want=true)(h:po [] e want=0):(∀c s,mc e [] []= .er c s->c=16\/c=6)/\∀v s,mc e [] []= .ok v s->ju want v:=by
 obtain⟨t,h1,h2⟩:=Lf h;have S:=sound OI 100000 (-1) 12 [] e 0 0 t hr h1 [] [] trivial;have e0:mc e [] []=aR [] 100000 (-1) [] [] e (aW [] 100000 []):=by
  unfold mc;rw[aaH AI]
 have hst:RD [] (aW [] 100000 []).state:=⟨rfl,fun i m l h=>by simp at h⟩;obtain⟨_,_,s1,s2⟩:=S (aW [] 100000 []) hst
 grind [nU]
theorem ye:(es:List Exp)->(zs:List bQ)->es.length=zs.length->(∀e∈es,cX 12 e=true)->(∀z∈zs,bZ z.2=true)->(∀x∈iH [] zs es,x.2=0)->(∀c,m0 es= .error c->c=16\/c=6)/\∀vs,m0 es= .ok vs->vs.length=zs.length/\∀(k:Nat)(z:bQ)(v:Val),zs[k]? = some z->vs[k]? = some v->ju z.2 v
 |[],[],_,_,_,_=>⟨(fun c h=>by cases h),fun vs h=>by cases h;grind⟩
 |e:: es,z:: zs,hl,hr,hz,hp=>by
  obtain⟨a1,a2⟩:=Kt (hr e abm) (hz z abm) (hp (z.1,po [] e z.2) (by simp[iH]));obtain⟨b1,b2⟩:=ye es zs (by simpa using hl) (fun x hx=>hr x (abb _ hx)) (fun x hx=>hz x (abb _ hx)) (fun x hx=>hp x (by simp_all[iH]))
  grind [m0]
 |[],_:: _,hl,_,_,_=>by simp at hl
 |_:: _,[],hl,_,_,_=>by simp at hl
def LK(m:Mod):Prop:=m.init.length=m.vars.length/\(∀e∈m.init,cX 12 e=true)/\(∀z∈m.vars,bZ z.2=true)/\∀x∈iH [] m.vars m.init,x.2=0
theorem vB:(p:List Mod)->(∀m∈p,LK m)->(∀c,fw p= .error c->c=16\/c=6)/\∀st,fw p= .ok st->RD p (st.map (·.values))
 |[],_=>⟨(fun c h=>by cases h),fun st h=>by cases h;exact⟨rfl,fun i m l h=>by simp at h⟩⟩
 | m:: ms,hm=>by
  obtain⟨i1,i2,i3,i4⟩:=hm m abm;obtain⟨a1,a2⟩:=ye m.init m.vars i1 i2 i3 i4;obtain⟨b1,b2⟩:=vB ms fun x hx=>hm x (abb _ hx);unfold fw;rw[aaH i1];cases hi:m0 m.init with
  |error c=>grind
  | ok vs=>
   cases hf:fw ms with
   |error c=>grind
   |ok r=>
    refine⟨fun c' h=>(by cases h),fun st h=>?_⟩;cases h;obtain⟨c1,c2⟩:=b2 r hf;refine⟨by simpa using c1,fun i m' l h1 h2=>?_⟩
    grind
def we(x:X α):Prop:=∀m s,x m≠.er 12 s
def fy(a:α):we (.ok a):=fun _ _ h=>by cases h
def ix{e:Int}(h:e≠12):we (.er (α:=α) e):=fun _ _ h'=>by cases h';exact h rfl
def eM{x:X α}{f:α->X β}(h:we x)(hf:∀a,we (f a)):we (x.bind f):=fun m s h'=>by
 unfold X.bind at h';split at h'
 ·exact hf _ _ _ h'
 ·rename_i e m' hx;cases h';exact h _ _ hx
def bX{c:Prop}[Decidable c]{x y:X α}(h1:c->we x)(h2:¬c->we y):we (if c then x else y):=by
 split
 ·exact h1 ‹_›
 ·exact h2 ‹_›
def tc{f:Ms->Ms}{x:X α}(h:we x):we (.upd f x):=fun m s=>h _ _
def ww{f:Ms->X α}(h:∀m,we (f m)):we (.get f):=fun m s=>h m _ _
theorem FE{r:Exp->X Val}:∀ {l:List Exp},(∀e∈l,we (r e))->we (listX r l)
 |[],_=>fy _
 |e:: l,h=>eM (h e AI) fun v=>eM (FE fun x hx=>h x (by simp[hx])) fun vs=>fy _
def tb{x:X Val}(h:we x):we (boolX x):=eM h fun v=>bX (fun _=>fy _) fun _=>ix Vc
theorem yp{r:Exp->eG Ty}:∀ {l:List Exp} {n n':Int} {ts:List Ty},dG r l n= .ok ts n'->∀x∈l,∃k t k',r x k= .ok t k'
 |[],_,_,_,_,x,hx=>by cases hx
 |e:: l,n,n',ts,h,x,hx=>by
  obtain⟨t,m,h1,h2⟩:=bind_ok h;obtain⟨ts',m',h3,_⟩:=bind_ok h2;rcases aaT.1 hx with rfl|hx
  ·exact⟨_,_,_,h1⟩
  ·exact yp h3 x hx
theorem Fv:∀ {ns:List az} {vs:List Val} {s:az},ns.length=vs.length->s∈ns->∃v,iE ns vs s=some v
 | n:: ns,v:: vs,s,hl,h=>by
  unfold iE;cases hx:iE ns vs s with
  |some x=>exact⟨_,rfl⟩
  | none=>
   rcases aaT.1 h with rfl|h
   ·exact⟨v,AI⟩
   ·obtain⟨w,hw⟩:=Fv (by simpa using hl) h;rw[hw]at hx;cases hx
def No(p:List Mod)(C:Int->Tcx)(g:Nat):Prop:=∀(own:Int)(d:Nat)(ls:List bQ)(e:Exp)(n n':Int)(t:Ty),bk (C own) d ls e n= .ok t n'->∀vs:List Val,vs.length=ls.length->we (aR p g own (ls.map (·.1)) vs e)
def FJ{p:List Mod}{C:Int->Tcx}(W:Wt p C){g:Nat}(H:No p C g){s:az}{f:Fun}(hf:eu p a s=some f){l:List Val}(hl:l.length=f.params.length):we (bT p (aR p g) a f l):=by
 obtain⟨_,_,_,t,n,h,_⟩:=W.fn a s f hf;exact ww fun m=>bX (fun _=>tc (eM (H a 12 f.params f.body 0 n t h l hl) fun v=>tc (fy _))) fun _=>ix Vc
theorem nC{r:Exp->X Val}{α:Type}{f:List Val->X α}:∀ {l:List Exp},(∀e∈l,we (r e))->(∀vs,vs.length=l.length->we (f vs))->we ((listX r l).bind f)
 |[],_,hf=>fun m s=>hf [] rfl m s
 | e:: l,h,hf=>by
  have ih:=nC (r:=r) (f:=fun vs=>f vs) (l:=l);intro m s hx;unfold listX X.bind at hx;cases h1:r e m with
  |er e' m'=> 
   simp only[h1]at hx;cases hx;exact h e AI m s h1
  |ok v m1=>
   simp only[h1]at hx
   have:=nC (r:=r) (f:=fun vs=>f (v:: vs)) (l:=l) (fun x hx=>h x (by simp[hx])) (fun vs hv=>hf _ (by simp[hv])) m1 s
   apply this;unfold X.bind;cases h2:listX r l m1 with
   |er e' m'=>simp only[h2]at hx |-;exact hx
   |ok vs m2=>simp only[h2,X.ok]at hx |-;exact hx
def Qk{p:List Mod}{C:Int->Tcx}(W:Wt p C){g:Nat}(H:No p C g):No p C (g+1):=by
 intro own d ls e n n' t hT vs hv;cases d with
 |zero=>cases hT
 | succ d=>
  have hT:b9 (C own) (bk (C own) d) ls e n= .ok t n':=hT;show we (jP p (aR p g) own (ls.map (·.1)) vs e);unfold jP;refine ww fun m=>bX (fun _=>ix Vc) fun _=>tc ?_;dsimp only;refine bX (fun _=>ix Vc) fun har=>?_;have call15:e.op=15->(match dm (C own) e with
    |none=>eG.er 12
    |some s=>if s.1.length=e.args.length then .bind (dG (bk (C own) d ls) e.args) fun l=>if jX cg l s.1=true then fun n=>.ok s.2.1 (qM n s.2.2)else .er 13 else .er 13) n= .ok t n':=by
   intro h15;rw[<- hT];unfold b9;rw[aaC WD,aaC WD,aaC WD,aaH h15]
   all_goals rfl
  -- the arguments, where they are judged one by one
  have hargs:(¬e.op=2/\¬e.op=12/\¬e.op=17/\¬e.op=18)->∀x∈e.args,we (aR p g own (ls.map (·.1)) vs x):=by
   intro ho x hx;have:∃ts k,dG (bk (C own) d ls) e.args n= .ok ts k:=by
    by_cases h15:e.op=15
    ·have hf:=call15 h15;cases hcs:dm (C own) e with
     |none=>rw[hcs]at hf;cases hf
     |some s=>
      rw[hcs]at hf;dsimp only at hf;split at hf
      ·obtain⟨ts,k,h1,_⟩:=bind_ok hf;exact⟨ts,k,h1⟩
      ·cases hf
    ·have hf:eG.bind (dG (bk (C own) d ls) e.args) (fun l n=>match bP e l with|some t=>.ok t (if e.op=16 then qM n e.n else n)|none=>.er 13 (if e.op=16 then qM n e.n else n)) n= .ok t n':=by
      rw[<- hT];unfold b9;rw[aaC WD,aaC WD,aaC WD,aaC h15];all_goals rfl
     obtain⟨ts,k,h1,_⟩:=bind_ok hf;exact⟨ts,k,h1⟩
   obtain⟨ts,k,h1⟩:=this;obtain⟨k1,t1,k2,h2⟩:=yp h1 x hx;exact H own d ls x k1 k2 t1 h2 vs hv
  have arg:(¬e.op=2/\¬e.op=12/\¬e.op=17/\¬e.op=18)->∀i,i<e.args.length->we (aR p g own (ls.map (·.1)) vs e.args[i]!):=by
   intro ho i hi;rw[aaG e.args i hi];exact hargs ho _ (List.getElem_mem hi)
  have len:∀k:Int,aE e.op=k->0<=k->(e.args.length:Int)=k:=by
   intro k hk h0;by_cases h:(e.args.length:Int)=k
   ·exact h
   ·exact absurd (.inr ⟨WD,WD⟩) har
  have tr:=fun b:Bool=>fy (iz b);refine bX (fun _=>fy _) fun o0=>bX (fun _=>bX (fun _=>fy _) fun _=>ix Vc) fun o1=>bX (fun o=>?_) fun o2=>bX (fun o=>?_) fun o3=>bX (fun o=>?_) fun o8=>bX (fun o=>?_) fun o10=>bX (fun o=>?_) fun o11=>bX (fun o=>?_) fun o12=>bX (fun o=>?_) fun o13=>bX (fun o=>?_) fun o14=>bX (fun o=>?_) fun o15=>bX (fun o=>?_) fun o16=>?_
  ·have hf:(match bV (fun z:bQ=>z.1== e.s) ls with|some z=>eG.ok z.2|none=>.er 12) n= .ok t n':=by
    rw[<- hT];unfold b9;rw[aaH o]
    all_goals rfl
   cases hz:bV (fun z:bQ=>z.1== e.s) ls with
   |none=>rw[hz]at hf;cases hf
   |some z=>
    have hz:=kc hz;obtain⟨v,h⟩:=Fv (ns:=ls.map (·.1)) (vs:=vs) (s:=e.s) (by simp[hv]) (abe.2 ⟨z,hz.1,aa9.1 hz.2⟩);rw[h];exact fy _
  ·have hl:=len 2 (by unfold aE;grind) Vc;refine eM (arg WD 0 WD) fun a=>eM (arg WD 1 WD) fun b=>?_;unfold nr;exact bX (fun _=>bX (fun _=>fy _) fun _=>ix Vc) fun _=>bX (fun _=>bX (fun _=>fy _) fun _=>bX (fun _=>fy _) fun _=>bX (fun _=>fy _) fun _=>fy _) fun _=>ix Vc
  ·have hl:=len 2 (by unfold aE;grind) Vc;exact eM (tb (arg WD 0 WD)) fun a=>bX (fun _=>fy _) fun _=>eM (tb (arg WD 1 WD)) fun b=>fy _
  ·have hl:=len 1 (by unfold aE;grind) Vc;exact eM (tb (arg WD 0 WD)) fun a=>fy _
  ·have hl:=len 3 (by unfold aE;grind) Vc;exact eM (tb (arg WD 0 WD)) fun a=>bX (fun _=>arg WD 1 WD) fun _=>arg WD 2 WD
  ·have hf:eG.bind (bk (C own) d ls e.args[0]!) (fun t=>bk (C own) d (ls++[(e.s,t)]) e.args[1]!) n= .ok t n':=by
    rw[<- hT];unfold b9;rw[aaC WD,aaH o]
   obtain⟨t1,k,h1,h2⟩:=bind_ok hf;refine eM (H own d ls _ _ _ _ h1 vs hv) fun v=>?_
   have:=H own d (ls++[(e.s,t1)]) _ _ _ _ h2 (vs++[v]) (by simp[hv])
   simpa using this
  ·unfold im;exact bX (fun _=>bX (fun _=>eM (FE (hargs WD)) fun l=>bX (fun _=>fy _) fun _=>ix Vc) fun _=>ix Vc) fun _=>ix Vc
  ·have hl:=len 1 (by unfold aE;grind) Vc;refine eM (arg WD 0 WD) fun v=>?_;split
   ·exact bX (fun _=>fy _) fun _=>ix Vc
   ·exact ix Vc
  ·unfold nL;have hf:=call15 o;cases hs:dm (C own) e with
   |none=>rw[hs]at hf;cases hf
   |some s=>
    obtain⟨f,f1,f2,_⟩:=W.call own e s hs;simp only[f1,aaH f2];exact bX (fun hl=>nC (hargs WD) fun l h=>FJ W H f1 WD) fun _=>ix Vc
  ·have hl:=len 1 (by unfold aE;grind) Vc;unfold tW;exact eM (arg WD 0 WD) fun v=>bX (fun _=>bX (fun _=>ww fun m=>tc (fy _)) fun _=>ix Vc) fun _=>ix Vc
  ·have ho:e.op=17\/e.op=18:=by
    by_cases h:e.op=17\/e.op=18
    ·exact h
    ·have:aE e.op= -2:=by unfold aE;grind
     exact absurd (.inl this) har
   have hf:(match bV (fun z:bQ=>z.1== e.s) (C own).vars with
     |none=>eG.er 12
     |some z=>if e.op=18 then .bind (bk (C own) d ls e.args[0]!) fun u=>if cg u z.2=true then .ok z.2 else .er 13 else .ok z.2) n= .ok t n':=by
    rw[<- hT];unfold b9;rw[aaC o2,aaC o12,aaH ho]
    all_goals rfl
   cases hz:bV (fun z:bQ=>z.1== e.s) (C own).vars with
   |none=>rw[hz]at hf;cases hf
   |some z=>
    rw[hz]at hf;dsimp only at hf;obtain⟨w1,w2,i,w3,w4,w5⟩:=W.var own e.s z hz;unfold tP;rw[aaC w1];simp only[w3];rw[aaC WD];refine bX (fun h18=>?_) fun _=>ww fun m=>fy _;rw[aaH h18]at hf;obtain⟨u,k,h1,_⟩:=bind_ok hf;exact eM (H own d ls _ _ _ _ h1 vs hv) fun v=>tc (fy _)
theorem Jq{p:List Mod}{C:Int->Tcx}(W:Wt p C):∀g,No p C g
 |0=>fun _ _ _ _ _ _ _ _ _ _=>ix Vc
 |g+1=>Qk W (Jq W g)
def Ks(U:List Mod->aA->List aA){s:Seen}{a:Adv}{g:Fun}(hb:iD s a=some g){c0:Call}(hc0:c0∈s.calls)(hcould:(c0.module,c0.func)∈iT U s a)(hp:g.pub=true->∃c∈s.calls,(gl g a c).1=true):
  gU U s a≠0/\(g.pub=true->gU U s a=2):=by
 have e:gU U s a=if s.calls.any (fun c=>(gl g a c).1)=true then 2 else if iT U s a=[]then 0 else if s.whole=false then 1 else if s.calls.any (Qc U s a g)=true then 1 else 0:=by
  unfold gU;rw[hb]
 rw[e];by_cases h1:s.calls.any (fun c=>(gl g a c).1)=true
 ·grind
 have hg:g.pub=false:=by
  cases h:g.pub with
  |false=>rfl
  |true=>
   grind
 rw[aaC h1,aaC (acS hcould)];refine⟨?_,fun h=>qr⟩;by_cases h2:s.whole=false
 ·grind
 rw[aaC h2,aaH]
 all_goals grind [Qc]
end Go.Av.Ap
namespace Go.Av.Ap
variable {α:Type}
def TE(k:Int)(x:X α):Prop:=∀m e s,0<=m.fuel->x m= .er e s->mu s<=mu m+k/\0<=s.fuel
def JM{k:Int}{a:α}:TE k (.ok a):=fun m e s _ h=>by cases h
def Ow{k:Int}{e:Int}(hk:0<=k):TE k (α:=α) (.er e):=fun m b s h0 h=>by cases h;exact⟨WD,h0⟩
def JL{j k:Int}{x:X α}(h:TE j x)(hk:j<=k):TE k x:=fun m a s h0 e=>by
 have:=h m a s h0 e
 exact⟨WD,this.2⟩
def gu{k:Int}{β:Type}{x:X α}{f:α->X β}(hx:TE k x)(tx:TQ 0 x)(hf:∀a,TE k (f a)):TE k (x.bind f):=by
 intro m b s h0 h;unfold X.bind at h;cases hr:x m with
 |er e t=>rw[hr]at h;cases h;exact hx m _ _ h0 hr
 |ok a t=>
  rw[hr]at h;obtain⟨h1,h2,h3,h4⟩:=tx m a t h0 hr
  have:=hf a t b s h3 h
  exact⟨WD,this.2⟩
def cU{k:Int}{c:Prop}[Decidable c]{x y:X α}(h1:TE k x)(h2:TE k y):TE k (if c then x else y):=by
 split
 ·exact h1
 ·exact h2
def QP{k:Int}(hk:0<=k){r:X Val}(h:TE k r)(t:TQ 0 r):TE k (boolX r):=gu h t fun _=>cU JM (Ow hk)
theorem Dw{k:Int}{r:Exp->X Val}(h:∀e,TE k (r e))(t:∀e,TQ 0 (r e)):∀l,TE k (listX r l)
 |[]=>JM
 |e:: l=>gu (h e) (t e) fun _=>gu (Dw h t l) (qJ t l) fun _=>JM
def zq{p:List Mod}{r:Ev}{a:Int}{f:Fun}{l:List Val}(hr:∀o ns vs e,TE 0 (r o ns vs e)):TE 1 (bT p r a f l):=by
 intro m v s h0 h;rw[nO]at h;have hm:mu (jk p a f l m)<=mu m+1:=by
  simp only[mu,jk];split
  ·simp;omega
  ·omega
 split at h
 ·unfold X.bind at h;cases hr':r a (f.params.map (·.1)) l f.body (jk p a f l m)with
  |er e t=>
   rw[hr']at h;cases h
   have:=hr _ _ _ _ (jk p a f l m) _ _ h0 hr'
   exact⟨WD,this.2⟩
  |ok b t=>
   rw[hr']at h;cases h
 ·cases h;exact⟨WD,h0⟩
def QQ{p:List Mod}{r:Ev}(hr:∀o ns vs e,TE 0 (r o ns vs e))(tr:∀o ns vs e,TQ 0 (r o ns vs e))(o:Int)(ns:List az)(vs:List Val)(e:Exp):TE 0 (jP p r o ns vs e):=by
 have tick:∀y:X Val,TE 1 y->TE 0 (ji y):=fun y hy m a s h0 h=>by
  unfold ji X.get at h;by_cases hf:m.fuel<=0
  ·simp only[hf,aaV]at h;cases h;exact⟨WD,h0⟩
  ·simp only[hf,aaR]at h;have h1:=hy { m with fuel:=m.fuel-1 } a s (by simp only;omega) h;simp only[mu]at h1 |-;exact⟨WD,h1.2⟩
 have H:=fun e=>JL (hr o ns vs e) (show (0:Int)<=1 by omega);have T:=fun e=>tr o ns vs e;have ok1:∀(α:Type)(a:α),TE 1 (.ok a):=fun _ _=>JM;have er1:∀(α:Type) e,TE 1 (α:=α) (.er e):=fun _ _=>Ow WD;have B:=fun e=>QP WD (H e) (T e);refine tick _ ?_;refine cU (er1 _ _) (cU (ok1 _ _) (cU (cU (ok1 _ _) (er1 _ _)) (cU ?_ (cU ?_ (cU ?_ (cU ?_ (cU ?_ (cU ?_ (cU ?_ (cU ?_ (cU ?_ (cU ?_ ?_))))))))))))
 ·split
  ·exact ok1 _ _
  ·exact er1 _ _
 ·refine gu (H _) (T _) fun a=>gu (H _) (T _) fun b=>?_;unfold nr;exact cU (cU (ok1 _ _) (er1 _ _)) (cU (cU (ok1 _ _) (cU (ok1 _ _) (cU (ok1 _ _) (ok1 _ _)))) (er1 _ _))
 ·exact gu (B _) (ni (T _)) fun a=>cU (ok1 _ _) (gu (B _) (ni (T _)) fun b=>ok1 _ _)
 ·exact gu (B _) (ni (T _)) fun a=>ok1 _ _
 ·exact gu (B _) (ni (T _)) fun a=>cU (H _) (H _)
 ·exact gu (H _) (T _) fun v=>JL (hr _ _ _ _) WD
 ·unfold im;exact cU (cU (gu (Dw H T _) (qJ T _) fun vs=>cU (ok1 _ _) (er1 _ _)) (er1 _ _)) (er1 _ _)
 ·refine gu (H _) (T _) fun v=>?_;split
  ·exact cU (ok1 _ _) (er1 _ _)
  ·exact er1 _ _
 ·unfold nL;simp only;split
  ·exact er1 _ _
  ·exact cU (cU (gu (Dw H T _) (qJ T _) fun l=>zq hr) (er1 _ _)) (er1 _ _)
 ·unfold tW;refine gu (H _) (T _) fun v=>cU (cU (fun m a s h0 h=>?_) (er1 _ _)) (er1 _ _);cases h
 ·unfold tP;refine cU (er1 _ _) ?_;simp only;refine cU (er1 _ _) (cU (gu (H _) (T _) fun v m a s h0 h=>?_) fun m a s h0 h=>?_)
  ·cases h
  ·cases h
theorem Dv{p:List Mod}:∀(n:Nat)(o:Int)(ns:List az)(vs:List Val)(e:Exp),TE 0 (aR p n o ns vs e)
 |0,_,_,_,_=>Ow WD
 |n+1,o,ns,vs,e=>QQ (fun o ns vs e=>Dv n o ns vs e) (fun o ns vs e=>pd n o ns vs e) o ns vs e
def GK(B:Nat)(m:Ms):Prop:=∀c∈m.calls,c.args.length<=B
def CQ(B:Nat)(x:X α)(Q:α->Prop):Prop:=∀m,GK B m->GK B (x m).st/\∀a s,x m= .ok a s->Q a
variable {B:Nat}
theorem I3{a:α}{Q:α->Prop}(h:Q a):CQ B (.ok a) Q:=fun m hm=>⟨hm,fun b s e=>by cases e;exact h⟩
theorem jo{e:Int}{Q:α->Prop}:CQ B (.er e) Q:=fun m hm=>⟨hm,fun b s e=>by cases e⟩
theorem fJ{β:Type}{x:X α}{f:α->X β}{Q:α->Prop}{R:β->Prop}(hx:CQ B x Q)(hf:∀a,Q a->CQ B (f a) R):CQ B (x.bind f) R:=by
 intro m hm;obtain⟨h1,h3⟩:=hx m hm;cases hr:x m with
 |er e s=>
  rw[hr]at h1;simp only[X.bind,hr];exact⟨h1,fun b s e=>by cases e⟩
 |ok a s=>
  rw[hr]at h1;obtain⟨g1,g3⟩:=hf a (h3 a s hr) s h1;simp only[X.bind,hr];exact⟨g1,g3⟩
theorem cP{c:Prop}[Decidable c]{x y:X α}{Q:α->Prop}(h1:c->CQ B x Q)(h2:¬c->CQ B y Q):CQ B (if c then x else y) Q:=by
 split
 ·exact h1 ‹_›
 ·exact h2 ‹_›
abbrev Lz:α->Prop:=fun _=>True
theorem wm{r:X Val}(h:CQ B r Lz):CQ B (boolX r) Lz:=fJ h fun _ _=>cP (fun _=>I3 trivial) (fun _=>jo)
theorem Cp{r:Exp->X Val}(h:∀e,CQ B (r e) Lz):∀l,CQ B (listX r l) fun vs=>vs.length=l.length
 |[]=>I3 rfl
 |e:: l=>fJ (h e) fun v _=>fJ (Cp h l) fun vs hvs=>I3 (by simp[hvs])
theorem Eo{p:List Mod}{r:Ev}{a:Int}{f:Fun}{l:List Val}(hr:∀o ns vs e,CQ B (r o ns vs e) Lz)(hl:l.length<=B):CQ B (bT p r a f l) Lz:=by
 intro m hm;rw[nO];split
 ·have hb:CQ B ((r a (f.params.map (·.1)) l f.body).bind fun v=>.upd (fun m=>{ m with frames:=m.frames-1 }) (.ok v)) Lz:=
   fJ (hr _ _ _ _) fun _ _ m hm=>⟨hm,fun a s e=>trivial⟩
  have hm':GK B (jk p a f l m):=by
   intro c hc;simp only[jk]at hc;split at hc
   ·rcases aba.1 hc with h|h
    ·exact hm c h
    ·simp only[abF]at h;subst h;exact hl
   ·exact hm c hc
  exact hb _ hm'
 ·exact⟨hm,fun _ _ e=>by cases e⟩
theorem Pr{p:List Mod}(hp:∀m∈p,∀f∈m.funcs,f.params.length<=B){r:Ev}(hr:∀o ns vs e,CQ B (r o ns vs e) Lz)(o:Int)(ns:List az)(vs:List Val)(e:Exp):CQ B (jP p r o ns vs e) Lz:=by
 have tick:∀y:X Val,CQ B y Lz->CQ B (ji y) Lz:=fun y hy m hm=>by
  unfold ji X.get;by_cases h:m.fuel<=0
  ·simp only[h,aaV];exact⟨hm,fun _ _ e=>by cases e⟩
  ·simp only[h,aaR];exact hy { m with fuel:=m.fuel-1 } hm
 have H:=fun e=>hr o ns vs e;have ok1:∀(α:Type)(a:α),CQ B (.ok a) Lz:=fun _ _=>I3 trivial;refine tick _ ?_;refine cP (fun _=>jo) fun _=>cP (fun _=>ok1 _ _) fun _=>cP (fun _=>cP (fun _=>ok1 _ _) fun _=>jo) fun _=>cP (fun _=>?_) fun _=>
  cP (fun _=>?_) fun _=>cP (fun _=>?_) fun _=>cP (fun _=>?_) fun _=>cP (fun _=>?_) fun _=>cP (fun _=>?_) fun _=>cP (fun _=>?_) fun _=>cP (fun _=>?_) fun _=>
  cP (fun _=>?_) fun _=>cP (fun _=>?_) fun _=>?_
 ·split
  ·exact ok1 _ _
  ·exact jo
 ·refine fJ (H _) fun a ha=>fJ (H _) fun b hb=>?_;unfold nr;exact cP (fun _=>cP (fun _=>ok1 _ _) fun _=>jo) fun _=>cP (fun _=>cP (fun _=>ok1 _ _) fun _=>cP (fun _=>ok1 _ _) fun _=>cP (fun _=>ok1 _ _) fun _=>ok1 _ _) fun _=>jo
 ·exact fJ (wm (H _)) fun a _=>cP (fun _=>ok1 _ _) fun _=>fJ (wm (H _)) fun b _=>ok1 _ _
 ·exact fJ (wm (H _)) fun a _=>ok1 _ _
 ·exact fJ (wm (H _)) fun a _=>cP (fun _=>H _) fun _=>H _
 ·exact fJ (H _) fun v hv=>hr _ _ _ _
 ·unfold im;exact cP (fun h1=>cP (fun h2=>fJ (Cp H _) fun vs hvs=>cP (fun h3=>ok1 _ _) fun _=>jo) fun _=>jo) fun _=>jo
 ·refine fJ (H _) fun v hv=>?_;split
  ·exact cP (fun _=>ok1 _ _) fun _=>jo
  ·exact jo
 ·unfold nL;simp only;split
  ·exact jo
  ·rename_i f hf;obtain⟨h1,h2,h3⟩:=gT hf;refine cP (fun _=>cP (fun h4=>fJ (Cp H _) fun l hl=>Eo hr ?_) fun _=>jo) fun _=>jo;rw[aaE h2]at h3
   have:=hp _ (List.getElem_mem h2) f h3
   omega
 ·unfold tW;exact fJ (H _) fun v hv=>cP (fun _=>cP (fun _ m hm=>⟨hm,fun a s e=>trivial⟩) fun _=>jo) fun _=>jo
 ·unfold tP;refine cP (fun _=>jo) fun ho=>?_;simp only;exact cP (fun _=>jo) fun hi=>cP (fun _=>fJ (H _) fun v hv m hm=>⟨hm,fun a s e=>trivial⟩) fun _ m hm=>⟨hm,fun a s e=>trivial⟩
theorem I2{p:List Mod}(hp:∀m∈p,∀f∈m.funcs,f.params.length<=B):∀(n:Nat)(o:Int)(ns:List az)(vs:List Val)(e:Exp),CQ B (aR p n o ns vs e) Lz
 |0,_,_,_,_=>jo
 |n+1,o,ns,vs,e=>Pr hp (fun o ns vs e=>I2 hp n o ns vs e) o ns vs e
end Go.Av.Ap
namespace Go.Av.Ap
structure OutB (B n:Nat) (o:Out):Prop where
 deeds:o.deeds.length<=100002
 calls:o.calls.length<=100002
 args:∀c∈o.calls,c.args.length<=B
 state:o.state.length<=n
 vals:∀x∈o.state,x.values.length<=B
def qB(B n:Nat)(e:Int):OutB B n (rB e):=⟨aa1 _,aa1 _,fun c hc=>(by cases hc),aa1 _,fun c hc=>(by cases hc)⟩
def MX{B:Nat}(p:List Mod)(st:List Vars)(module fn:az)(args:List Val)(world:List Int)(fuel:Int)(hp:∀m∈p,m.vars.length<=B/\∀f∈m.funcs,f.params.length<=B):OutB B p.length (jr p st module fn args world fuel):=by
 by_cases h0:0<=fuel/\fuel<=100000
 ·rcases xR p st module fn args with⟨e,he,h⟩|⟨a,f,hf,ha,hl,hargs,hv,hb,h⟩
  ·rw[h world fuel h0.1 h0.2];exact qB _ _ e
  ·rw [h world fuel h0.1 h0.2];obtain⟨b1,b2,b3⟩:=ku hb;have hfp:f.params.length<=B:=by
    rw[aaE hl]at hf;exact (hp _ (List.getElem_mem hl)).2 f hf
   obtain⟨_,q2,_⟩:=uZ (p:=p) (a:=a) (n:=100000) hargs hv (aW world fuel (st.map (·.values))) ⟨fun l hl v hv=>by
    simp only[aW,abe]at hl;obtain⟨x,hx,rfl⟩:=hl;exact b2 x hx v hv,fun c hc=>by simp[aW]at hc⟩
   have hmu:mu (bT p (aR p 100000) a f args (aW world fuel (st.map (·.values)))).st<=fuel+1/\0<=fuel:=by
    refine⟨?_,h0.1⟩;have e0:mu (aW world fuel (st.map (·.values)))=fuel:=by simp[mu,aW]
    cases hr:bT p (aR p 100000) a f args (aW world fuel (st.map (·.values)))with
    |ok v s=>
     have:=(zt (fun o ns vs e=>pd 100000 o ns vs e) _ v s h0.1 hr).1
     rw[e0]at this;exact this
    |er e s=>
     have:=(zq (fun o ns vs e=>Dv 100000 o ns vs e) _ e s h0.1 hr).1
     rw[e0]at this;exact this
   have hfu:0<=(bT p (aR p 100000) a f args (aW world fuel (st.map (·.values)))).st.fuel:=by
    cases hr:bT p (aR p 100000) a f args (aW world fuel (st.map (·.values)))with
    |ok v s=>exact (zt (fun o ns vs e=>pd 100000 o ns vs e) _ v s h0.1 hr).2.2.1
    |er e s=>exact (zq (fun o ns vs e=>Dv 100000 o ns vs e) _ e s h0.1 hr).2
   have hc:=(Eo (p:=p) (B:=B) (a:=a) (f:=f) (l:=args) (I2 (p:=p) (fun m hm=>(hp m hm).2) 100000) WD (aW world fuel (st.map (·.values))) (fun c hc=>by simp[aW]at hc)).1;generalize bT p (aR p 100000) a f args (aW world fuel (st.map (·.values)))=r at *;simp only[mu]at hmu;refine⟨by rw[FN];omega,by rw[m8];omega,by rw[m8];exact hc,?_,fun x hx=>?_⟩
   ·rw[p9,List.length_zipWith];simp;omega
   ·rw [p9]at hx
    have:=rk hx
    have hs:mE r.st=p.map (fun m=>m.vars.length):=by
     rw[q2];refine abY fun i=>?_;simp only[mE,aW,aby,Option.map_map];cases hi:st[i]? with
     | none=>
      have:p[i]? = none:=by
       rw[acQ]at hi |-;omega
      rw[this];rfl
     |some x=>
      have hlt:=(aaJ.1 hi).1;have hpi:p[i]? = some (p[i]'(WD)):=aaE _;rw[hpi]
      have:=(b3 i _ x hpi hi).2
      simp[this]
    have h1:x.values.length∈mE r.st:=abe.2 ⟨_,this,rfl⟩;rw[hs]at h1;obtain⟨m,hm,he⟩:=abe.1 h1
    have:=(hp m hm).1
    omega
 ·unfold jr;split
  ·exact qB _ _ _
  ·rw[aaH WD];exact qB _ _ _
def QG{B:Nat}(p:List Mod)(module fn:az)(args:List Val)(world:List Int)(fuel:Int)(hp:∀m∈p,m.vars.length<=B/\∀f∈m.funcs,f.params.length<=B):OutB B p.length (fW p module fn args world fuel):=by
 unfold fW;split
 ·exact qB _ _ _
 ·exact MX _ _ _ _ _ _ _ hp
end Go.Av.Ap
