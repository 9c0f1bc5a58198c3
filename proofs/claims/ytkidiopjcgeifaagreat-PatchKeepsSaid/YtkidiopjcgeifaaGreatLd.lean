/- The abstract evaluator and plain laws, part 4. Condition: the table of types is the program's. -/
import Derived.Test.YtkidiopjcgeifaaGreatLc
import Derived.ChangeSame
import Derived.OpenShut
import Derived.ChangeReads
import Derived.ReadAgain
import Derived.Deep.Slices
import Derived.WideShapes
import Derived.SizedLaws
import Derived.Sort.AssemblyPlain
set_option linter.defProp false
set_option linter.unusedSimpArgs false
set_option linter.unusedVariables false
namespace Go.Av.Ap
structure Ver where
 a:Int
 b:Int
 c:Int
 deriving DecidableEq,Inhabited
structure Rng where
 lo:Ver
 hi:Ver
 deriving DecidableEq,Inhabited
def Ver.av(v:Ver):AV:=.agg [qi v.a,qi v.b,qi v.c]
def Rng.av(r:Rng):AV:=.agg [qi r.lo.a,qi r.lo.b,qi r.lo.c,qi r.hi.a,qi r.hi.b,qi r.hi.c]
def GJ(l:List Ver):AV:=.sl (l.map Ver.av)
def F9(l:List Rng):AV:=.sl (l.map Rng.av)
@[simp] theorem xt(v:Ver):ab v.av=[.int .i64 v.a,.int .i64 v.b,.int .i64 v.c]:=rfl
@[simp] theorem xq(r:Rng):ab r.av=[.int .i64 r.lo.a,.int .i64 r.lo.b,.int .i64 r.lo.c,.int .i64 r.hi.a,.int .i64 r.hi.b,.int .i64 r.hi.c]:=rfl
@[simp] theorem EZ(v:Ver):AV.agg [qi v.a,qi v.b,qi v.c]=v.av:=rfl
@[simp] theorem EY(r:Rng):AV.agg [qi r.lo.a,qi r.lo.b,qi r.lo.c,qi r.hi.a,qi r.hi.b,qi r.hi.c]=r.av:=rfl
@[simp] theorem Mu(g:Nat->Nat->Nat->Nat->Bool->AV)(v:Ver):cl g v.av=v.av:=rfl
@[simp] theorem Mr(g:Nat->Nat->Nat->Nat->Bool->AV)(v:Rng):cl g v.av=v.av:=rfl
@[simp] theorem PG(g:Nat->Nat->Nat->Nat->Bool->AV)(l:List Ver):cl g (GJ l)=GJ l:=by grind [GJ,cl,eC,Mu]
@[simp] theorem Pz(g:Nat->Nat->Nat->Nat->Bool->AV)(l:List Rng):cl g (F9 l)=F9 l:=by grind [F9,cl,eC,Mr]
@[simp] theorem Zt(v:Ver):cW v.av=some 3:=rfl
@[simp] theorem Zq(v:Rng):cW v.av=some 6:=rfl
@[simp] theorem yW(v:Ver):cn 3 v.av=true:=rfl
@[simp] theorem yU(v:Rng):cn 6 v.av=true:=rfl
@[simp] theorem Ws(l:List Ver):dK 3 (l.map Ver.av)=true:=eN yW l
@[simp] theorem Wp(l:List Rng):dK 6 (l.map Rng.av)=true:=eN yU l
@[simp] theorem YZ(v:Ver):aF (ao v.av)=ao v.av:=aZ fun g=>Mu g v
@[simp] theorem YV(v:Rng):aF (ao v.av)=ao v.av:=aZ fun g=>Mr g v
@[simp] theorem Wg(v:List Ver):aF (ao (GJ v))=ao (GJ v):=aZ fun g=>PG g v
@[simp] theorem Wd(v:List Rng):aF (ao (F9 v))=ao (F9 v):=aZ fun g=>Pz g v
@[simp high] theorem UP(x:Ver):bB 3 x.av=ao x.av:=by grind [bZ,yW,xt,EZ]
@[simp high] theorem Ps(x:Ver):aK 3 [] x.av=ao x.av:=by grind [cw,yW,xt,EZ]
@[simp high] theorem UN(x:Rng):bB 6 x.av=ao x.av:=by grind [bZ,yU,xq,EY]
@[simp high] theorem Pq(x:Rng):aK 6 [] x.av=ao x.av:=by grind [cw,yU,xq,EY]
structure Seen where
 prog:List Mod
 vsns:List Ver
 calls:List Call
 whole:Bool
 deriving Inhabited
structure Adv where
 id:Int
 name:aA
 ranges:List Rng
 func:aA
 cond:Exp
 deriving Inhabited
def Seen.av(s:Seen):AV:=.agg [mods s.prog,GJ s.vsns,Ap.calls s.calls,.bool s.whole]
def Adv.av(a:Adv):AV:=.agg ([.int .i64 a.id,.str a.name,F9 a.ranges,.str a.func]++a.cond.cells)
structure CallLim (c:Call):Prop where
 len:c.args.length<=140737488355328
 args:∀v∈c.args,v.Lim
structure Seen.Lim (s:Seen):Prop where
 len:s.prog.length<=140737488355328
 mods:∀m∈s.prog,m.Lim
 vsns:s.vsns.length<=140737488355328
 lenc:s.calls.length<=140737488355328
 calls:∀c∈s.calls,CallLim c
structure Adv.Lim (a:Adv):Prop where
 ranges:a.ranges.length<=140737488355328
 cond:a.cond.Lim
def Oq(l:List Seen):AV:=.sl (l.map Seen.av)
@[simp] theorem vB(s:Seen):ab s.av=[mods s.prog,GJ s.vsns,Ap.calls s.calls,.bool s.whole]:=rfl
@[simp] theorem A7(s:Seen):AV.agg [mods s.prog,GJ s.vsns,Ap.calls s.calls,.bool s.whole]=s.av:=rfl
@[simp] theorem Sy(a:Adv):ab a.av=[.int .i64 a.id,.str a.name,F9 a.ranges,.str a.func,.int .i64 a.cond.op,.int .i64 a.cond.n,.str a.cond.s,.str a.cond.m,strs a.cond.names,bg a.cond.args]:=by
 obtain⟨i,n,r,f,c⟩:=a;cases c;rfl
@[simp] theorem EW(a:Adv):AV.agg [.int .i64 a.id,.str a.name,F9 a.ranges,.str a.func,.int .i64 a.cond.op,.int .i64 a.cond.n,.str a.cond.s,.str a.cond.m,strs a.cond.names,bg a.cond.args]=a.av:=by
 obtain⟨i,n,r,f,c⟩:=a;cases c;rfl
@[simp] theorem PC(g:Nat->Nat->Nat->Nat->Bool->AV)(s:Seen):cl g s.av=s.av:=by
 unfold Seen.av;simp_all[cl,eB]
@[simp] theorem aaY(g:Nat->Nat->Nat->Nat->Bool->AV)(a:Adv):cl g a.av=a.av:=by
 rw[<- EW];simp_all[cl,eB]
@[simp] theorem Ys(g:Nat->Nat->Nat->Nat->Bool->AV)(l:List Seen):cl g (Oq l)=Oq l:=by grind [Oq,cl,eC,PC]
@[simp] theorem Ww(v:Seen):cW v.av=some 4:=rfl
@[simp] theorem uS(v:Seen):cn 4 v.av=true:=rfl
@[simp] theorem VJ(l:List Seen):dK 4 (l.map Seen.av)=true:=eN uS l
@[simp high] theorem RO(x:Seen):bB 4 x.av=ao x.av:=by grind [bZ,uS,vB,A7]
@[simp high] theorem OU(x:Seen):aK 4 [] x.av=ao x.av:=by grind [cw,uS,vB,A7]
@[simp] theorem Za(v:Adv):cn 10 v.av=true:=by
 rw[<- EW];rfl
@[simp high] theorem UL(x:Adv):bB 10 x.av=ao x.av:=AN
@[simp high] theorem Pl(x:Adv):aK 10 [] x.av=ao x.av:=AN
end Go.Av.Ap
namespace Go.Av
variable [Dr]
open Go.RowKit Go.WideShapes Go.ChangeShapes
theorem Left.below{S S':az}{β β':List bQ}{w w':World}{h':Hp}(L:Left (cQ [] []) S β w S' β' w' h'):Below w.heap.size w w':=
 ⟨L.gro.os,L.gro.tape,L.gro.out,L.gro.size,fun k hk=>(L.keep k hk (by rintro⟨l,_,_,h1,_⟩;simp at h1)).1⟩
def nf(W:World):az:=fun b o=>W.cell? ⟨b,o,none⟩
omit [Dr]in
theorem O7(W:World):Wf (nf W) W:=fun _ _ _ h=>h
omit [Dr]in
theorem KR{W:World}(h:GOKw W):xg (nf W) [] [] W:=⟨h,fun b _ ho=>by obtain⟨l,_,_,h1,_⟩:=ho;simp at h1,DW h⟩
theorem KY{P:Program}{p:Pg}(G:GoodPg P p)(hO:ek p){f:FuncId}{args:List AV}{vs:List Value}{W:World}(hg:GOKw W)(hv:be (nf W) [] args vs)(ht:aa p f args []= .ok (.bool true) []):Calls P f vs.toArray W fun e W'=>e= .returned (.bool true)/\Below W.heap.size W W':=by
 have h:=(nn G hO f args [] (nf W) [] W vs (by rw[ht];simp) (KR hg) (O7 W) ⟨rfl,fun _=>.no,fun l cs hl=>by simp at hl⟩ hv).1;rw[ht]at h;refine h.mono fun e W' hp=>?_;obtain⟨S',β',v,rfl,hv,L,_⟩:=hp;simp only[VR]at hv;subst hv;exact⟨rfl,L.below⟩
section
variable {H:Type} {enc:TypeId×Value->H} {P:Program}
omit [Dr]in
theorem Al{f:Func}{s:ChangeSpec}{apart fresh handsOn again:Bool}{W W':World}{args:Array Value}{v:Value}{ds gs:List (DataW H)}{before pa pv:List MemPlace}(hW:DataW.Whole enc P f.params.toList s.vars apart W args.toList ds gs before)(hres:∀(b:Nat)(sp:Nat->Bool)(hd:Bool),DataW.TrodAll enc P W' b sp hd f.resultTypes.toList (v.resultList f.resultTypes.size) (s.fn H (ds++gs)).results [])(hargs:∀sp:Nat->Bool,(∀p∈before,sp p.block=true)->DataW.TrodAll enc P W' 0 sp true f.params.toList args.toList (s.fn H (ds++gs)).args pa)(hvars:∀sp:Nat->Bool,(∀p∈before,sp p.block=true)->DataW.TrodVars enc P W' sp s.vars (s.fn H (ds++gs)).vars pv)(hps:before=pa++pv)(hb:Below W.heap.size W W')(hok:∀(j:Nat)(t:TypeId)(r:Value),f.resultTypes[j]? = some t->(v.resultList f.resultTypes.size)[j]? = some r->Value.okWide P W' .any 0 t r):
  s.post enc P f apart fresh handsOn again W args v W':=by
 have hlt:∀p∈before,p.block<W.heap.size:=fun p hp=>hW.lt p hp;have hold:∀p∈before,(fun b=>decide (b<W.heap.size)) p.block=true:=fun p hp=>qr
 refine⟨ds,gs,before,[],pa,pv,hW,hres _ _ _,hargs _ hold,hvars _ hold,World.keptBut_mono (fun p hp=>⟨hp,?_⟩) (hb.frame (· ∈before)),fun _=>?_⟩
 ·grind
 ·obtain⟨_,_,_,_,_,hz,hn⟩:=hW;refine⟨hok,_,_,([]++pa)++pv,⟨[]++pa,pv,trodAll_append (hargs _ (fun _ _=>rfl)) (hres _ _ _),hvars _ (fun _ _=>rfl),rfl,?_,?_⟩,?_⟩
  ·intro b off hp;have hin:MemPlace.cell b off∈before:=by rw[hps];simpa using hp
   rw[hb.frozen (hlt _ hin)];exact hz b off hin
  all_goals grind
end
end Go.Av
namespace Go.Av
open Go.RowKit
section
variable {H:Type} {enc:TypeId×Value->H} {P:Program} {w w':World}
theorem rJ{base:Nat}{spare:Nat->Bool}{held:Bool}:∀ {ts:List TypeId} {vs:List Value} {ds:List (DataW H)} {ps:List MemPlace},DataW.TrodAll enc P w base spare held ts vs ds ps->(∀p∈ps,w.sameAt w' p)->DataW.TrodAll enc P w' base spare held ts vs ds ps
 |[],[],[],_,h,_=>h
 |_:: _,_:: _,_:: _,_,⟨p,q,⟨n,h1⟩,h2,e⟩,hs=>⟨p,q,⟨n,DataW.trod_carry n _ _ _ h1 (fun x hx=>hs x qr)⟩,rJ h2 (fun x hx=>hs x qr),e⟩
theorem Dz(hb:Below w.heap.size w w'){p:MemPlace}(hp:p.block<w.heap.size):w.sameAt w' p:=by
 cases p with
 |cell b off=>
  have:=hb.block b hp
  show w'.cell? ⟨b,off,none⟩=w.cell? ⟨b,off,none⟩;simp only[World.cell?,this]
 |map b=>exact hb.block b hp
theorem GX{T:TypeId->Prop}(K:Kids P T)(hz:∀t e,T t->P.underlying t=some (.slice e)->0<P.cellsOf e){ts:List TypeId}{vs:List Value}{ds:List (DataW H)}{ps:List MemPlace}(hT:∀t∈ts,T t)(h:DataW.TrodAll enc P w 0 (fun _=>true) true ts vs ds ps)(hlt:∀p∈ps,p.block<w.heap.size)(hb:Below w.heap.size w w')(sp:Nat->Bool)(hsp:∀p∈ps,sp p.block=true):DataW.TrodAll enc P w' 0 sp true ts vs ds ps:=
 (rJ h fun p hp=>Dz hb (hlt p hp)).respare K hz hT hsp
end
theorem Ju{α:Type}(Q:Nat->α->Prop):∀n,(∀i,i<n->∃x,Q i x)->∃l:List α,l.length=n/\∀i x,l[i]? = some x->Q i x
 |0,_=>⟨[],rfl,fun i x h=>by simp at h⟩
 |n+1,h=>by
  obtain⟨l,h1,h2⟩:=Ju Q n fun i hi=>h i WD;obtain⟨y,hy⟩:=h n WD;refine⟨l++[y],by simp[h1],fun i x hx=>?_⟩
  grind
end Go.Av
namespace Go.Av
open Go.RowKit Go.WideShapes Go.ChangeShapes
variable {held:Bool}{base:Nat}
section
variable {H:Type} (enc:TypeId×Value->H) (P:Program) (W:World)
def Rd{α:Type}(N:Nat)(t:TypeId)(cells:α->List AV)(Ok:α->Prop):Prop:=∀(base:Nat)(held:Bool)(n:Nat),n<N->∀(cs:List Value)(x:DataW H×List MemPlace),DataW.trod enc P W base (fun _=>true) held n t cs=some x->(∀k∈x.1.weights P t,k<=reachBytes)->∃a:α,be (nf W) [] (cells a) cs/\Ok a
def O5{α:Type}(N:Nat)(tot:Nat)(o:Nat)(fs:List Field)(cells:α->List AV)(Ok:α->Prop):Prop:=∀(base:Nat)(held:Bool)(n:Nat),n<N->∀(cs:List Value)(xs:List (DataW H×List MemPlace)),cs.length=tot->
 xs.length=fs.length->(∀(i:Nat)(f:Field),fs[i]? = some f->DataW.trod enc P W base (fun _=>true) held n f.type ((cs.drop f.offset).take (P.cellsOf f.type))=xs[i]?)->(∀k∈DataW.weightsEach P (fs.map (·.type)) (xs.map (·.1)),k<=reachBytes)->∃a:α,be (nf W) [] (cells a) (cs.drop o)/\Ok a
variable {enc P W} {α β:Type} {N:Nat} {t:TypeId}
theorem Rd.zero{cells:α->List AV}{Ok:α->Prop}:Rd enc P W 0 t cells Ok:=fun _ _ n hn=>absurd hn WD
theorem Rd.le{cells:α->List AV}{Ok:α->Prop}(h:Rd enc P W N t cells Ok){M:Nat}(hm:M<=N):Rd enc P W M t cells Ok:=fun b hd n hn=>h b hd n WD
theorem Rd.map{cells:α->List AV}{Ok:α->Prop}(h:Rd enc P W N t cells Ok)(g:α->β){cells':β->List AV}{Ok':β->Prop}(hc:∀a,cells' (g a)=cells a)(ho:∀a,Ok a->Ok' (g a)):Rd enc P W N t cells' Ok':=by
 intro b hd n hn cs x hx hw;obtain⟨a,h1,h2⟩:=h b hd n hn cs x hx hw
 grind
theorem JJ(ht:P.underlying t=some .bool):Rd enc P W N t (fun b:Bool=>[.bool b]) (fun _=>True):=by
 intro b hd n hn cs x hx hw;obtain⟨b,rfl,_⟩:=DataW.trod_bool ht hx;simp_all[be,VR]
theorem qG{k:IntKind}(ht:P.underlying t=some (.int k)):Rd enc P W N t (fun n:Int=>[.int k n]) (fun n=>(Lit.int k n).wf=true):=by
 intro b hd n hn cs x hx hw;obtain⟨b,rfl,_,hwf⟩:=DataW.trod_int ht hx;exact⟨b,by simp[be,VR],hwf⟩
theorem u5(ht:P.underlying t=some .string):Rd enc P W N t (fun s:List UInt8=>[.str s]) (fun s=>s.length<=reachBytes):=by
 intro b hd n hn cs x hx hw;obtain⟨s,rfl,rfl,_⟩:=DataW.trod_string ht hx;simp_all[be,VR,DataW.weights]
def Sn(cells:α->List AV)(ev:α->AV)(sz:Nat):Prop:=∀(a:α)(S:az)(β:List bQ)(vs:List Value),be S β (cells a) vs->vs.length=sz->∃v,VR S β (ev a) v/\v.cells.toList=vs
theorem oe{cells:α->List AV}{ev:α->AV}{sz:Nat}(he:∀a,ev a= .agg (cells a)):Sn cells ev sz:=fun a S β vs h hl=>⟨.agg vs.toArray,by rw[he];simp only[VR];grind,by simp[Value.cells]⟩
theorem EK{ev:α->AV}(ho:∀a,aO (ev a)=true):Sn (fun a=>[ev a]) ev 1:=fun a S β vs h hl=>by
 simp only[be]at h;obtain⟨v,_,rfl,h,rfl⟩:=h
 grind [ko]
theorem qO{e:TypeId}:∀ {l:List (DataW H)} {d:DataW H},d∈l->∀k∈d.weights P e,k∈DataW.weightsAll P e l
 |x:: l,d,hd,k,hk=>by
  simp only[DataW.weightsAll,acZ];rcases ac2.1 hd with rfl|hd
  ·exact .inl hk
  ·exact .inr (qO hd k hk)
theorem mX{e:TypeId}{cells:α->List AV}{Ok:α->Prop}(h:Rd enc P W N e cells Ok)(ht:P.underlying t=some (.slice e)){sz by_:Nat}(hsz:P.cellsOf e=sz)(h0:0<sz)(hby:P.bytesOf e=by_){ev:α->AV}(hev:Sn cells ev sz):
  Rd enc P W N t (fun l:List α=>[.sl (l.map ev)]) (fun l=>l.length*by_<=reachBytes/\∀a∈l,Ok a):=by
 intro base hd n hn cs x hx hw;rcases DataW.trod_slice ht hx with⟨rfl,rfl⟩|⟨a,len,cap,elems,rest,m,rfl,rfl,rfl,hb,hle,hm,hlen,hel,hsp,_⟩
 ·exact⟨[],by simp only[be,ael,VR];grind,AI,fun a ha=>by cases ha⟩
 obtain⟨hrl,hre⟩:=hsp rfl;rw[hsz]at hel hre;simp only[DataW.weights,ht,ac2,acZ,hby]at hw;have hspot:0<cap->a.spot=none:=by
  intro hc;have:∃y,(W.cells? base (a.add 0) sz).bind (DataW.trod enc P W base (fun _=>true) hd m e)=some y:=by
   by_cases h1:0<len
   ·grind
   ·have:=hre 0 WD
    grind
  obtain⟨y,hy⟩:=this;obtain⟨cs,hcs,_⟩:=afi.1 hy;obtain⟨_,hl,hc⟩:=World.cells?_some hcs;have h2:=hc 0 h0;rw[acH WD]at h2;have h3:=World.cell?_spot h2;have e:(a.add 0).add 0=a:=by unfold Addr.add;simp
  rwa [e]at h3
 have hx:∀i,i<len->∃y:α,(∃v,VR (nf W) [] (ev y) v/\v.cells.size=sz/\il (nf W) a.block (a.off+i*sz) v.cells.toList)/\Ok y:=by
  intro i hi;have h1:=hel i hi;rw[acH WD]at h1;obtain⟨cs,hcs,htr⟩:=afi.1 h1;obtain⟨y,hy,hok⟩:=h base hd m WD cs _ htr (fun k hk=>hw k (.inr (.inl (qO (adj.2 ⟨_,List.getElem_mem _,rfl⟩) k hk))));obtain⟨_,hl,hc⟩:=World.cells?_some hcs;obtain⟨v,hv,hvc⟩:=hev y _ _ cs hy hl;refine⟨y,⟨v,hv,qr,fun j u hj=>?_⟩,hok⟩;rw[hvc]at hj;have hjl:j<sz:=by
   rcases ac9 j cs.length with h|h
   ·omega
   ·grind
  have h2:=hc j hjl;rw[hj]at h2;unfold nf;have hs:=hspot WD;have e:(a.add (i*sz)).add j=⟨a.block,a.off+i*sz+j,none⟩:=by
   obtain⟨b,o,s⟩:=a;simp only at hs;subst hs;rw[add_plain,add_plain]
  rw[<- e];exact h2
 obtain⟨l,hl1,hl2⟩:=Ju (fun i y=>(∃v,VR (nf W) [] (ev y) v/\v.cells.size=sz/\il (nf W) a.block (a.off+i*sz) v.cells.toList)/\Ok y) len hx;refine⟨l,?_,?_,fun y hy=>?_⟩
 ·simp only[be,VR,adJ];refine⟨_,_,rfl,⟨some a,cap,by rw[hl1],WD,(fun e=>by cases e),fun q hq=>?_⟩,rfl⟩;cases hq;refine⟨hspot,sz,.of_get fun i e he=>?_⟩
  grind
 ·have:=hw _ (.inl rfl)
  grind
 ·obtain⟨i,hi,e⟩:=aew hy;exact (hl2 i y qr).2
theorem mW{tot:Nat}:O5 enc P W N tot tot [] (fun _:Unit=>[]) (fun _=>True):=fun base hd n hn cs xs hl _ _ _=>⟨(),by simp[be,<- hl],trivial⟩
theorem bC{tot o k:Nat}{f:Field}{fs:List Field}{c1:α->List AV}{Ok1:α->Prop}{c2:β->List AV}{Ok2:β->Prop}(h1:Rd enc P W N f.type c1 Ok1)(ho:f.offset=o)(hk:P.cellsOf f.type=k)(h2:O5 enc P W N tot (o+k) fs c2 Ok2):
  O5 enc P W N tot o (f:: fs) (fun x:α×β=>c1 x.1++c2 x.2) (fun x=>Ok1 x.1/\Ok2 x.2):=by
 intro base hd n hn cs xs hl hx hf hw
 match xs,hx with
 |x:: xs,hx=>
  have hf0:=hf 0 f rfl;rw[ho,hk]at hf0;simp only[ac3,DataW.weightsEach,acZ]at hw;obtain⟨a,ha,oa⟩:=h1 base hd n hn _ x hf0 fun k hk=>hw k (.inl hk);obtain⟨b,hb,ob⟩:=h2 base hd n hn cs xs hl (by simpa using hx) (fun i g hg=>by simpa using hf (i+1) g (by simpa using hg)) fun k hk=>hw k (.inr hk);refine⟨(a,b),?_,oa,ob⟩
  have:=ha.append hb
  grind [List.drop_drop,List.take_append_drop]
theorem kp{fs:Array Field}{tot:Nat}{cells:α->List AV}{Ok:α->Prop}(ht:P.underlying t=some (.struct fs))(hc:P.cellsOf t=tot)(h:O5 enc P W N tot 0 fs.toList cells Ok):Rd enc P W (N+1) t cells Ok:=by
 intro base hd n hn cs x hx hw;obtain⟨xs,m,rfl,rfl,hl,hxs,hf⟩:=DataW.trod_struct ht hx;simp only[DataW.weights,ht]at hw;obtain⟨a,h1,h2⟩:=h base hd m WD cs xs (by rw[hl,hc]) (by simpa using hxs) (fun i f hi=>hf i f (by simpa using hi)) hw
 grind
theorem Oe{cells:α->List AV}{Ok:α->Prop}(h:∀N,Rd enc P W N t cells Ok){v:Value}{d:DataW H}{p:List MemPlace}(hd:DataW.Trod enc P W base (fun _=>true) held t v d p)(hw:∀k∈d.weights P t,k<=reachBytes):
  ∃a:α,be (nf W) [] (cells a) v.cells.toList/\Ok a:=by
 obtain⟨n,hn⟩:=hd;exact h (n+1) base held n WD _ _ hn hw
theorem JI{f:α->AV}{Ok:α->Prop}(h:∀N,Rd enc P W N t (fun a=>[f a]) Ok){v:Value}{d:DataW H}{p:List MemPlace}(hv:v.cells.toList=[v])(hd:DataW.Trod enc P W base (fun _=>true) held t v d p)(hw:∀k∈d.weights P t,k<=reachBytes):
  ∃a:α,VR (nf W) [] (f a) v/\Ok a:=by
 obtain⟨a,h1,h2⟩:=Oe h hd hw;rw[hv]at h1;simp only[be]at h1
 grind
theorem uu{e:TypeId}{r:Reach}{b0:Nat}{f:α->AV}{Ok:α->Prop}(h:∀N,Rd enc P W N t (fun a=>[f a]) Ok)(ht:P.underlying t=some (.slice e)){v:Value}{d:DataW H}{p:List MemPlace}(hok:Value.okWide P W r b0 t v)(hd:DataW.Trod enc P W base (fun _=>true) held t v d p)(hw:∀k∈d.weights P t,k<=reachBytes):∃a:α,VR (nf W) [] (f a) v/\Ok a:=by
 obtain⟨a,len,cap,rfl⟩:=okWide_slice ht hok;exact JI h rfl hd hw
theorem Pb{k:IntKind}{r:Reach}{b0:Nat}{f:α->AV}{Ok:α->Prop}(h:∀N,Rd enc P W N t (fun a=>[f a]) Ok)(ht:P.underlying t=some (.int k)){v:Value}{d:DataW H}{p:List MemPlace}(hok:Value.okWide P W r b0 t v)(hd:DataW.Trod enc P W base (fun _=>true) held t v d p)(hw:∀k∈d.weights P t,k<=reachBytes):∃a:α,VR (nf W) [] (f a) v/\Ok a:=by
 obtain⟨a,rfl⟩:=okWide_int ht hok;exact JI h rfl hd hw
theorem rR{fs:Array Field}{r:Reach}{b0:Nat}{f:α->AV}{Ok:α->Prop}{cells:α->List AV}(h:∀N,Rd enc P W N t cells Ok)(hf:∀a,f a= .agg (cells a))(ht:P.underlying t=some (.struct fs)){v:Value}{d:DataW H}{p:List MemPlace}(hok:Value.okWide P W r b0 t v)(hd:DataW.Trod enc P W base (fun _=>true) held t v d p)(hw:∀k∈d.weights P t,k<=reachBytes):∃a:α,VR (nf W) [] (f a) v/\Ok a:=by
 obtain⟨cs,rfl,_⟩:=okWide_struct ht hok;obtain⟨a,h1,h2⟩:=Oe h hd hw;refine⟨a,?_,h2⟩;rw[hf];simp only[VR];exact⟨cs.toList,AI,h1⟩
theorem jd{ts:List TypeId}{ds:List (DataW H)}(h:(DataW.weightsEach P ts ds).all (· <=reachBytes)=true){j:Nat}{u:TypeId}{d:DataW H}(ht:ts[j]? = some u)(hd:ds[j]? = some d):∀k∈d.weights P u,k<=reachBytes:=fun k hk=>by
 have:=acQ.1 h _ (DataW.weights_mem_each ht hd k hk)
 grind
end
end Go.Av
namespace Go.Av
variable [Dr]
variable {w:World}
section
omit [Dr]
theorem dm.grow{S:az}{β:List bQ}{w':World}{h:Hp}(hh:dm S β w h)(hb:∀b,b<w.heap.size->w'.heap[b]? = w.heap[b]?):dm S β w' h:=by
 obtain⟨hlen,ω,hr⟩:=hh;exact⟨hlen,ω,hr.rows (az.le_refl S) (ig.refl β) hlen fun l cs hl _=>.inl ⟨hl,fun b hb' ho=>⟨ho,hb b hb',fun o h=>h⟩⟩⟩
theorem dm.low{S:az}{β:List bQ}{h:Hp}(hh:dm S β w h){b:Nat}(hb:cQ β h b):b<w.heap.size:=by
 obtain⟨_,ω,hr⟩:=hh;obtain⟨l,cs,n,h1,h2,h3⟩:=hb;obtain⟨b',x,k1,k2,_⟩:=hr.own h1 h2
 grind
theorem Wf.grow{S:az}{w':World}(hw:Wf S w)(hb:∀b,b<w.heap.size->w'.heap[b]? = w.heap[b]?):Wf S w':=
 fun b o v hv=>by rw[cell_of_heap (hb b (hw.lt hv))];exact hw b o v hv
end
theorem Br{S S':az}{β β':List bQ}{w2 w' w'':World}{h h':Hp}(hg:Gro w w2)(hold:∀b,b<w.heap.size->w2.heap[b]? = w.heap[b]?)(L:Left (cQ β h) S β w2 S' β' w' h')(hg':Gro w' w'')(hsame:∀b,¬(w.heap.size<=b/\b<w2.heap.size)->w''.heap[b]? = w'.heap[b]?)(hw:Wf S w)(hh:dm S β w h):Left (cQ β h) S β w S' β' w'' h':=by
 have hs:=hg.size;refine⟨L.le,L.ext,fun b o v hv=>?_,(hg.trans L.gro).trans hg',fun b hb hE=>?_,?_,fun b hb=>?_⟩
 ·by_cases hb:w.heap.size<=b/\b<w2.heap.size
  ·have hE:¬cQ β h b:=fun ho=>by have:=hh.low ho;omega
   have:=(L.keep b hb.2 hE).2 o
   rw[this,hw.none hb.1]at hv;cases hv
  ·rw[cell_of_heap (hsame b hb)];exact L.wf b o v hv
 ·have h1:=L.keep b WD hE
  grind
 ·obtain⟨hlen,ω,hr⟩:=L.heap;refine⟨hlen,ω,hr.rowsA (az.le_refl S') (ig.refl β') hlen fun l cs hl hne=>.inl ⟨hl,fun b _ ⟨n,h1⟩ h3=>⟨h3,hsame b fun hb=>?_,fun o h=>h⟩⟩⟩;rcases L.owned b ⟨l,cs,_,hl,hne,h1⟩with ho|ho
  ·have:=hh.low ho;omega
  ·omega
 ·rcases L.owned b hb with ho|ho
  all_goals grind
theorem Gro.setCell(w:World)(a:Addr)(v:Value):Gro w (w.setCell a v):=⟨AI,rfl,rfl,rfl,fun _=>acC _⟩
omit [Dr]in
theorem jT{a:Addr}{v:Value}{b:Nat}(h:b≠a.block):(w.setCell a v).heap[b]? = w.heap[b]?:=by
 simp only[World.setCell,aeH]
 grind
end Go.Av
namespace Go.Av.Ap
open Go Go.Av
def w7(b:UInt8):Bool:=decide (97<=b.toNat)&&decide (b.toNat<=122)
def Hn(b:UInt8):Bool:=decide (48<=b.toNat)&&decide (b.toNat<=57)
def xw(b:UInt8):Bool:=w7 b||Hn b
def wG(s:aA):Bool:=!(s== [])&&w7 (s.headD 0)&&decide (s.length<=20)&&((s.takeWhile xw).length== s.length)
def rk:aA:=[32,97,110,100,32,98,97,99,107,32,98,111,111,108,32,99,108,111,99,107,32,101,108,115,101,32,102,97,108,115,101,32,102,105,108,101,115,32,102,110,32,102,111,114,119,97,114,100,32,103,101,116,32,105,102,32,105,110,32,105,110,116,32,108,101,116,32,109,111,100,117,108,101,32,109,111,118,101,32,110,101,116,32,110,111,116,32,111,114,32,112,117,98,32,115,101,99,114,101,116,115,32,115,101,116,32,116,104,101,110,32,116,114,117,101,32,117,115,101,32,118,97,114,32]
def ew(s:aA):Bool:=wG s&&!(Lib.contains rk ([32]++s++[32]))
def LG{s:aA}(h:wG s=true):s.length<=20:=by
 simp_all[wG]
def i8(p f:aA):Bool:=!(aU f p||f== p)
def uv{α:Type}(Q:α->α->Bool):List α->Bool
 |x:: y:: r=>Q x y&&uv Q (y:: r)
 |_=>true
theorem Eo{α:Type}[Inhabited α](Q:α->α->Bool):(l:List α)->(uv Q l=true↔∀k,k+1<l.length->Q l[k]! l[k+1]! = true)
 |[]=>by simp[uv]
 |[x]=>by simp[uv]
 | x:: y:: r=>by
  simp only[uv,acB,Eo Q (y:: r)];constructor
  ·rintro⟨h1,h2⟩ k hk;cases k with
   |zero=>simpa using h1
   |succ k=>grind
  ·intro h;refine⟨by simpa using h 0 AI,fun k hk=>?_⟩;simpa using h (k+1) (by simpa using hk)
def IY{α:Type}[Inhabited α](P:α->Bool)(Q:α->α->Bool)(l:List α):(List.range' 0 l.length).all (fun k=>P l[k]! && (decide (k=0)||Q l[k-1]! l[k]!))=(l.all P&&uv Q l):=by
 rw[aen,acB,<- GU P l,Eo]
 grind
def gd:Nat->Ty->Bool
 |0,_=>false
 |d+1,t=>decide (0<=t.kind)&&decide (t.kind<3)&&decide (t.fields.length<=8)&&(t.kind== 2||t.fields.length== 0)&&(t.fields.all (fun f=>ew f.1&&gd d f.2)&&uv (fun a b=>i8 a.1 b.1) t.fields)
theorem nD(d:Nat)(t:Ty):gd (d+1) t=(decide (0<=t.kind)&&decide (t.kind<3)&&decide (t.fields.length<=8)&&(t.kind== 2||t.fields.length== 0)&&(t.fields.all (fun f=>ew f.1&&gd d f.2)&&uv (fun a b=>i8 a.1 b.1) t.fields)):=rfl
abbrev cV(t:Ty):Bool:=gd 4 t
mutual
def G4:Ty->Ty->Bool
 |.mk k fs,a=>a.kind== k&&wQ fs a.fields
def wQ:List (aA×Ty)->List ca->Bool
 |[],_=>true
 |f:: fs,l=>G5 f l&&wQ fs l
def G5:aA×Ty->List ca->Bool
 |(n,t),l=>match dN (fun z=>z.1== n) l with
  |some z=>G4 t z.2
  |none=>false
end
def dH(a b:Ty):Bool:=G4 b a
theorem vF:(fs:List ca)->(l:List ca)->wQ fs l=fs.all fun f=>G5 f l
 |[],_=>rfl
 |f:: fs,l=>by simp[wQ,vF fs l]
def Ke(a b:Ty):dH a b=(a.kind== b.kind&&b.fields.all fun f=>match dN (fun z=>z.1== f.1) a.fields with|some z=>dH z.2 f.2|none=>false):=by
 cases b with
 |mk k fs=>
  grind [G4,vF,Ty.kind,Ty.fields,G5,dH]
def kH(a b:Int):Int:=IntKind.i64.wrap (BitVec.ofInt 64 a &&& ~~~ BitVec.ofInt 64 b).toNat
structure Sig.Lim (s:Sig):Prop where
 plen:s.params.length<=140737488355328
 ptys:∀t∈s.params,t.Lim
 result:s.result.Lim
structure Face.Lim (f:Face):Prop where
 len:f.funcs.length<=140737488355328
 sigs:∀s∈f.funcs,s.Lim
@[simp] theorem xC(x:Sig):bB 5 x.av=ao x.av:=AN
@[simp] theorem CB(x:Sig):aK 5 [] x.av=ao x.av:=AN
theorem na:(a:aA)->aU a a=false
 |[]=>rfl
 |x:: a=>by simp[aU,na a]
theorem iS:(a b c:aA)->aU a b=true->aU b c=true->aU a c=true
 |_,[],c,h,_=>by cases ‹aA› <;> simp[aU]at h
 |_,_:: _,[],_,h=>by simp[aU]at h
 |[],_:: _,_:: _,_,_=>by simp[aU]
 | x:: a,y:: b,z:: c,h1,h2=>by
  simp only[aU,adm,acB,acP,ada,UInt8.lt_iff_toNat_lt]at h1 h2 |-;rcases h1 with h1|⟨rfl,h1⟩
  ·grind
  ·rcases h2 with h2|⟨rfl,h2⟩
   ·exact .inl h2
   ·exact .inr ⟨rfl,iS a b c h1 h2⟩
theorem kL:(a b:aA)->aU a b=false->a≠b->aU b a=true
 |[],[],_,h=>absurd rfl h
 |[],_:: _,h,_=>by simp[aU]at h
 |_:: _,[],_,_=>by simp[aU]
 | x:: a,y:: b,h1,h2=>by
  simp only[aU,aeb,aeh,adm,acB,acP,ada,UInt8.lt_iff_toNat_lt]at h1 |-;by_cases e:x=y
  ·subst e;refine .inr ⟨rfl,kL a b ?_ fun e=>h2 (by rw[e])⟩
   grind
  grind [UInt8.toNat_inj]
theorem qQ{α:Type}{F:α->α->Bool}:{l:List α} ->(∀x∈l,F x x=true)->bp F l l=true
 |[],_=>rfl
 |x:: l,h=>by simp[bp,h x AI,qQ (l:=l) fun y hy=>h y (by simp[hy])]
section
variable {α:Type} {f:α->AV} {sz:Nat}
def rowOf(f:α->AV)(l:List α):List AV:=(l.map f).flatMap ab
theorem m0(x:α)(l:List α):rowOf f (x:: l)=ab (f x)++rowOf f l:=by simp[rowOf]
theorem jE(hs:∀x,(ab (f x)).length=sz):(l:List α)->(rowOf f l).length=l.length*sz
 |[]=>by simp[rowOf]
 |x:: l=>by rw[m0,ac7,hs,jE hs l,acR,aeZ];omega
theorem kY(hs:∀x,(ab (f x)).length=sz):(l:List α)->(i:Nat)->(h:i<l.length)->((rowOf f l).drop (i*sz)).take sz=ab (f l[i])
 |x:: l,0,_=>by
  simp_all[m0]
 |x:: l,i+1,h=>by
  rw[m0,show (i+1)*sz=(ab (f x)).length+i*sz by grind,List.drop_append,List.drop_eq_nil_of_le WD,Nat.add_sub_cancel_left,acT];simpa using kY hs l i (by simpa using h)
theorem Ao{cs xs:List AV}{off:Nat}(h:(cs.drop off).take xs.length=xs):setCells cs off xs=cs:=by
 grind [setCells,List.drop_drop,List.take_append_drop]
theorem uG(hs:∀x,(ab (f x)).length=sz)(hag:∀x,f x= .agg (ab (f x)))(hcl:∀x g,cl g (f x)=f x)(hz:0<sz){h:Hp}{q:Nat}{l:List α}(hq:h[q]? = some (rowOf f l))(d:Nat):
  jt (d+1) h (.hs q 0 l.length sz true)= .sl (l.map f):=by
 have hlen:=jE (f:=f) hs l;simp only[jt,cl,hq];have h1:(decide (0+l.length*sz<=(rowOf f l).length)&&decide (0<sz)&&(true||(Nat.beq sz 1&&(rowOf f l).all aO)))=true:=by
  simp[hlen,hz]
 rw[h1,acD];congr 1;apply aee
 ·simp
 ·intro i h2 h3;have hi:i<l.length:=by simpa using h2
  simp only[List.getElem_map,List.getElem_range,ac8,acD];rw[kY hs l i hi,<- hag];cases d with
  |zero=>exact hcl _ _
  |succ d=>exact hcl _ _
theorem Hk{T:TT}{t e:Nat}{ti ei:TI}(ht:T t=some ti)(hk:ti.kind= .slice e)(he:T e=some ei)(h4:ei.size=sz)(hag:ei.agg=true)(hb:0<ei.bytes)(hz:0<sz)(hok:∀x,cn sz (f x)=true)(call:FuncId->List AV->M AV)(l:List α)(hc:l.length*ei.bytes<=140737488355328)(h:Hp):
  eG T t call [.sl (l.map f)] h=if l=[]then .ok (.sl []) h else .ok (.hs h.length 0 l.length sz true) (h++[rowOf f l]):=by
 have h1:dK sz (l.map f)=true:=eN hok l;cases l with
 |nil=>simp_all[eG,appH,jX,nd]
 |cons v l=>
  have hne:((v:: l).map f).isEmpty=false:=rfl;simp_all[eG,appH,jX,nd,rowOf]
end
def KZ{T:TT}{t:Nat}{ti:TI}{q off:Nat}{cs:List AV}{h:Hp}(ht:T t=some ti)(hag:ti.agg=true)(hq:h[q]? = some cs)(hle:off+ti.size<=cs.length):bM T t (.hp q off) h= .ok (.agg ((cs.drop off).take ti.size)) h:=by
 simp_all[bM]
def Gw{T:TT}{t:Nat}{ti:TI}{q off:Nat}{cs:List AV}{v:AV}{h:Hp}(ht:T t=some ti)(hq:h[q]? = some cs)(hok:cn ti.size v=true)(hle:off+ti.size<=cs.length)(h0:0<ti.size)(hsame:(cs.drop off).take (ab v).length=ab v):
  cG T t (.hp q off) v h= .ok (.tup []) h:=by
 simp only[cG,ht,hq,hok,afm hle,afm h0,aea,acD]
 grind [Ao,List.set_getElem_self]
end Go.Av.Ap
namespace Go.Av.Ap
def Mb:List aA->Bool
 |[]=>true
 |[_]=>true
 |x:: y:: l=>aU x y&&Mb (y:: l)
def cI:Nat->Val->Bool
 |0,_=>false
 |d+1,v=>if(v.kind== 0||v.kind== 1)=true then v.names.length== 0&&v.values.length== 0&&(v.kind== 0||v.n== 0||v.n== 1)
  else v.kind== 2&&v.n== 0&&v.names.length== v.values.length&&decide (v.names.length<=8)&&Mb v.names&&v.values.all (cI d)
def kB(b:Bool):Val:=.mk 1 (if b then 1 else 0) [] []
def sE(n:Int):Val:=.mk 0 n [] []
def eM(p:List Mod)(s:aA):Int:=aL (fun m=>m.name== s) p 0
def rD(l:List Fun)(s:aA):Int:=aL (fun f=>f.name== s) l 0
def oi(l:List ca)(s:aA):Int:=aL (fun f=>f.1== s) l 0
structure Ms where
 fuel:Int
 frames:Int
 world:List Int
 deeds:List Deed
 calls:List Call
 state:List (List Val)
inductive Rs (α:Type) where
 |ok (a:α) (m:Ms)
 |er (e:Int) (m:Ms)
def X(α:Type):=Ms->Rs α
variable {α:Type}
def X.ok(a:α):X α:=fun m=>.ok a m
def X.er(e:Int):X α:=fun m=>.er e m
def X.bind{β:Type}(x:X α)(f:α->X β):X β:=fun m=>match x m with
 |.ok a m'=>f a m'
 |.er e m'=>.er e m'
def X.upd(f:Ms->Ms)(x:X α):X α:=fun m=>x (f m)
def X.get(f:Ms->X α):X α:=fun m=>f m m
def bU(op:Int):Int:=
 if op=0\/op=1\/op=2\/op=17 then 0
 else if op=10\/op=14\/op=16\/op=18 then 1
 else if op=3\/op=4\/op=5\/op=6\/op=7\/op=8\/op=9\/op=12 then 2
 else if op=11 then 3
 else if op=13\/op=15 then -1
 else -2
def nz:List aA->List Val->aA->Option Val
 |n:: ns,v:: vs,s=>match nz ns vs s with
  |some x=>some x
  |none=>if n=s then some v else none
 |_,_,_=>none
def mJ:List aA->List Val->aA->Option Val
 |n:: ns,v:: vs,s=>if n=s then some v else mJ ns vs s
 |_,_,_=>none
def wr(n:Int):Int:=IntKind.i64.wrap n
def pW(op:Int)(a b:Val):X Val:=
 if op=7 then(if a.kind=b.kind/\a.kind≠2 then .ok (kB (a.n== b.n))else .er 13)
 else if a.kind=0/\b.kind=0 then
  (if op=3 then .ok (sE (wr (a.n+b.n)))else if op=4 then .ok (sE (wr (a.n-b.n)))else if op=5 then .ok (sE (wr (a.n*b.n)))else .ok (kB (decide (a.n<b.n))))
 else .er 13
mutual
def iH:Val->Nat
 |.mk _ _ _ vs=>gL vs+1
def gL:List Val->Nat
 |[]=>0
 |v:: vs=>max (iH v) (gL vs)
end
abbrev Ev:=Int->List aA->List Val->Exp->X Val
def boolX(r:X Val):X Bool:=r.bind fun v=>if v.kind=1 then .ok (v.n== 1)else .er 13
def listX(r:Exp->X Val):List Exp->X (List Val)
 |[]=>.ok []
 |e:: es=>(r e).bind fun v=>(listX r es).bind fun vs=>.ok (v:: vs)
def iX(r:Exp->X Val)(e:Exp):X Val:=
 if e.names.length=e.args.length/\Mb e.names=true then
  (if e.names.length<=8 then(listX r e.args).bind fun vs=>if iH (.mk 2 0 e.names vs)<=4 then .ok (.mk 2 0 e.names vs)else .er 6 else .er 6)
 else .er 13
def iA(p:List Mod)(at_:Int)(s:aA):Option Fun:=
 if at_<0 then none else(let l:=(p[at_.toNat]?.getD default).funcs;let i:=rD l s;if i<0 then none else l[i.toNat]?)
def cS(p:List Mod)(r:Ev)(at_:Int)(f:Fun)(l:List Val):X Val:=
 .get fun m=>if m.frames<60 then
  .upd (fun m=>{ m with calls:=if f.pub=true then m.calls++[⟨(p[at_.toNat]?.getD default).name,f.name,l⟩]else m.calls,frames:=m.frames+1 })
   ((r at_ (f.params.map (·.1)) l f.body).bind fun v=>.upd (fun m=>{ m with frames:=m.frames-1 }) (.ok v))
 else .er 6
def pC(p:List Mod)(r:Ev)(own:Int)(ns:List aA)(vs:List Val)(e:Exp):X Val:=
 let at_:=if e.m=[]then own else eM p e.m
 match iA p at_ e.s with
 |none=>.er 12
 | some f=>if e.m=[]\/f.pub=true then
   (if e.args.length=f.params.length then(listX (r own ns vs) e.args).bind fun l=>cS p r at_ f l else .er 13)
  else .er 12
def Cq(r:X Val)(e:Exp):X Val:=
 r.bind fun v=>if v.kind=0 then
  (if e.n=1\/e.n=2\/e.n=4\/e.n=8 then
   .get fun m=>.upd (fun m=>{ m with world:=m.world.tail,deeds:=m.deeds++[⟨e.n,v.n,m.world.headD 0⟩] }) (.ok (sE (m.world.headD 0)))
  else .er 14)
 else .er 13
def setSt(st:List (List Val))(i k:Nat)(v:Val):List (List Val):=st.modify i fun l=>l.set k v
def yu(st:List (List Val))(i k:Nat):Val:=(st.getD i []).getD k default
def wP(p:List Mod)(r:Exp->X Val)(own:Int)(e:Exp):X Val:=
 if own<0 then .er 12 else
 let i:=oi (p[own.toNat]?.getD default).vars e.s
 if i<0 then .er 12 else
 if e.op=18 then(r e.args[0]!).bind fun v=>.upd (fun m=>{ m with state:=setSt m.state own.toNat i.toNat v }) (.ok v)
 else .get fun m=>.ok (yu m.state own.toNat i.toNat)
def nF(p:List Mod)(r:Ev):Ev:=fun own ns vs e=>.get fun m=>
 if m.fuel<=0 then .er 16 else .upd (fun m=>{ m with fuel:=m.fuel-1 }) <|
 let n:=bU e.op
 if n= -2\/(n≠-1/\n≠e.args.length)then .er 13
 else if e.op=0 then .ok (sE e.n)
 else if e.op=1 then(if e.n=0\/e.n=1 then .ok (kB (e.n== 1))else .er 13)
 else if e.op=2 then(match nz ns vs e.s with|some v=>.ok v|none=>.er 12)
 else if e.op=3\/e.op=4\/e.op=5\/e.op=6\/e.op=7 then(r own ns vs e.args[0]!).bind fun a=>(r own ns vs e.args[1]!).bind fun b=>pW e.op a b
 else if e.op=8\/e.op=9 then(boolX (r own ns vs e.args[0]!)).bind fun x=>if x=(e.op== 9)then .ok (kB (e.op== 9))else(boolX (r own ns vs e.args[1]!)).bind fun y=>.ok (kB y)
 else if e.op=10 then(boolX (r own ns vs e.args[0]!)).bind fun x=>.ok (kB !x)
 else if e.op=11 then(boolX (r own ns vs e.args[0]!)).bind fun x=>if x=true then r own ns vs e.args[1]! else r own ns vs e.args[2]!
 else if e.op=12 then(r own ns vs e.args[0]!).bind fun v=>r own (ns++[e.s]) (vs++[v]) e.args[1]!
 else if e.op=13 then iX (r own ns vs) e
 else if e.op=14 then(r own ns vs e.args[0]!).bind fun v=>(match mJ v.names v.values e.s with|some x=>if v.kind=2 then .ok x else .er 13|none=>.er 13)
 else if e.op=15 then pC p r own ns vs e
 else if e.op=16 then Cq (r own ns vs e.args[0]!) e
 else wP p (r own ns vs) own e
def bh(p:List Mod):Nat->Ev
 |0=>fun _ _ _ _=>.er 16
 |n+1=>nF p (bh p n)
end Go.Av.Ap
namespace Go.Av.Ap
open Go Go.Av
def jc(e:Exp):Exp×Int:=
 if e.op=0\/e.op=1 then(.mk e.op e.n [] [] [] e.args,0)
 else if e.op=2\/e.op=17 then(.mk e.op 0 e.s [] [] e.args,0)
 else if e.op=18\/e.op=14 then(.mk e.op 0 e.s [] [] e.args,1)
 else if e.op=16 then(.mk e.op e.n [] [] [] e.args,1)
 else if e.op=10 then(.mk e.op 0 [] [] [] e.args,1)
 else if e.op=12 then(.mk e.op 0 e.s [] [] e.args,2)
 else if e.op=11 then(.mk e.op 0 [] [] [] e.args,3)
 else if e.op=13 then(.mk e.op 0 [] [] e.names e.args,e.names.length)
 else if e.op=15 then(.mk e.op 0 e.s e.m [] e.args,-1)
 else(.mk e.op 0 [] [] [] e.args,2)
def Dh(l:List aA):Bool:=(l.all ew&&uv i8 l)&&decide (l.length<=8)
def ju(e:Exp):Bool:=
 if e.op=0 then decide (0<=e.n)&&decide (e.n<=1099511627776)
 else if e.op=1 then e.n== 0||e.n== 1
 else if e.op=16 then((e.n== 1||e.n== 2)||e.n== 4)||e.n== 8
 else if e.op=2\/e.op=17\/e.op=18\/e.op=14\/e.op=12 then ew e.s
 else if e.op=15 then ew e.s&&(e.m== []||ew e.m)&&decide (e.args.length<=6)
 else if e.op=13 then Dh e.names
 else true
def pt(e:Exp):Bool:=
 decide (0<=e.op)&&decide (e.op<19)&&(decide ((jc e).2<0)||((jc e).2== (e.args.length:Int)))&&((jc e).1.n== e.n)&&((jc e).1.s== e.s)&&((jc e).1.m== e.m)&&(((jc e).1.names.length:Int)== (e.names.length:Int))&&ju e
def ey:Nat->Exp->Bool
 |0,_=>false
 |d+1,e=>pt e&&e.args.all (ey d)
theorem qH(d:Nat)(e:Exp):ey (d+1) e=(pt e&&e.args.all (ey d)):=rfl
def zS(a b:Int):Int:=IntKind.i64.wrap (BitVec.ofInt 64 a ||| BitVec.ofInt 64 b).toNat
mutual
def IJ:Ty->Ty->Option Ty
 |.mk k fs,b=>if k=b.kind then some (.mk k (sQ fs b.fields))else none
def sQ:List (aA×Ty)->List ca->List ca
 |[],_=>[]
 |f:: fs,l=>(match Z5 f l with|some x=>[x]|none=>[])++sQ fs l
def Z5:aA×Ty->List ca->Option ca
 |(n,t),l=>match dN (fun z=>z.1== n) l with
  |some z=>(match IJ t z.2 with|some u=>some (n,u)|none=>none)
  |none=>none
end
def pT(k:Int)(l:List Ty):Bool:=l.all fun t=>t.kind== k
def dX(e:Exp)(l:List Ty):Option Ty:=
 if e.op=3\/e.op=4\/e.op=5\/e.op=16 then(if pT 0 l=true then some (.mk 0 [])else none)
 else if e.op=1 then some (.mk 1 [])
 else if e.op=6 then(if pT 0 l=true then some (.mk 1 [])else none)
 else if e.op=7 then(if(pT 0 l||pT 1 l)=true then some (.mk 1 [])else none)
 else if e.op=8\/e.op=9\/e.op=10 then(if pT 1 l=true then some (.mk 1 [])else none)
 else if e.op=11 then(match IJ l[1]! l[2]! with|some t=>if l[0]!.kind=1 then some t else none|none=>none)
 else if e.op=13 then some (.mk 2 (e.names.zip l))
 else if e.op=14 then(match dN (fun z=>z.1== e.s) l[0]!.fields with|some z=>some z.2|none=>none)
 else some (.mk 0 [])
inductive Tr (α:Type) where
 |ok (a:α) (n:Int)
 |er (e n:Int)
abbrev ie(α:Type):=Int->Tr α
variable {α:Type}
def ie.ok(a:α):ie α:=fun n=>.ok a n
def ie.er(e:Int):ie α:=fun n=>.er e n
def ie.bind{β:Type}(x:ie α)(f:α->ie β):ie β:=fun n=>match x n with
 |.ok a n'=>f a n'
 |.er e n'=>.er e n'
structure Tcx where
 vars:List ca
 funcs:List Fun
 uses:List aA
 faces:aA->Option Face
def fD(c:Tcx)(e:Exp):Option (List Ty×Ty×Int):=
 if e.m=[]then(match c.funcs.find? fun f=>f.name== e.s with
  |some f=>some (f.params.map (·.2),f.result,f.effects)
  |none=>none)
 else match c.faces e.m with
  |none=>none
  |some f=>match f.funcs.find? (fun s=>s.name== e.s)with
   |none=>none
   |some s=>if e.m∈c.uses then some (s.params,s.result,s.effects)else none
def gM(r:Exp->ie Ty):List Exp->ie (List Ty)
 |[]=>.ok []
 |e:: es=>.bind (r e) fun t=>.bind (gM r es) fun ts=>.ok (t:: ts)
def fh(c:Tcx)(r:List ca->Exp->ie Ty)(ls:List ca)(e:Exp):ie Ty:=
 if e.op=2 then(match dN (fun z=>z.1== e.s) ls with|some z=>.ok z.2|none=>.er 12)
 else if e.op=12 then .bind (r ls e.args[0]!) fun t=>r (ls++[(e.s,t)]) e.args[1]!
 else if e.op=17\/e.op=18 then(match dN (fun z=>z.1== e.s) c.vars with
  |none=>.er 12
  |some z=>if e.op=18 then .bind (r ls e.args[0]!) fun u=>if dH u z.2=true then .ok z.2 else .er 13 else .ok z.2)
 else if e.op=15 then(match fD c e with
  |none=>.er 12
  |some s=>if s.1.length=e.args.length then .bind (gM (r ls) e.args) fun l=>if bp dH l s.1=true then fun n=>.ok s.2.1 (zS n s.2.2)else .er 13 else .er 13)
 else .bind (gM (r ls) e.args) fun l n=>match dX e l with
  |some t=>.ok t (if e.op=16 then zS n e.n else n)
  |none=>.er 13 (if e.op=16 then zS n e.n else n)
def cz(c:Tcx):Nat->List ca->Exp->ie Ty
 |0=>fun _ _=>.er 16
 |d+1=>fh c (cz c d)
def Rl:Tcx:=⟨[],[],[],fun _=>none⟩
def wo(ls:List ca)(e:Exp)(want:Ty):Int:=match cz Rl 12 ls e 0 with
 |.er b _=>b
 |.ok t n=>if n≠0 then 14 else if dH t want=true then 0 else 13
def cT:List (aA×Int)->aA×Int
 |[]=>([],0)
 |x:: l=>if x.2=0 then cT l else x
def kW(ls:List ca)(vs:List ca)(es:List Exp):List (aA×Int):=(vs.zip es).map fun x=>(x.1.1,wo ls x.2 x.1.2)
def qx(m:Mod):aA×Int:=cT (kW [] m.vars m.init++if m.moves=true then kW m.old m.vars m.forward++kW m.vars m.old m.back else[])
def KH(c:Tcx)(f:Fun):Int:=match cz c 12 f.params f.body 0 with
 |.er b _=>b
 |.ok t n=>if dH t f.result=true then(if kH n f.effects=0 then 0 else 14)else 13
def mH(f:Face):Bool:=f.funcs.all fun s=>cV s.result&&s.params.all cV
def LH(x:ie α):Prop:=∀n b n',x n= .er b n'->b≠0
theorem FM(a:α):LH (.ok a):=fun n b n' h=>by cases h
theorem yQ{e:Int}(h:e≠0):LH (α:=α) (.er e):=fun n b n' h'=>by cases h';exact h
def rc{β:Type}{x:ie α}{f:α->ie β}(hx:LH x)(hf:∀a,LH (f a)):LH (.bind x f):=fun n b n' h=>by
 unfold ie.bind at h;split at h
 ·exact hf _ _ _ _ h
 ·rename_i e' m hm;cases h;exact hx _ _ _ hm
def qz{c:Prop}[Decidable c]{x y:ie α}(h1:LH x)(h2:LH y):LH (if c then x else y):=by
 grind
theorem tN{r:Exp->ie Ty}(h:∀e,LH (r e)):∀l,LH (gM r l)
 |[]=>FM _
 |e:: l=>rc (h e) fun _=>rc (tN h l) fun _=>FM _
theorem lY(c:Tcx):∀(d:Nat)(ls:List ca)(e:Exp),LH (cz c d ls e)
 |0,_,_=>yQ Vc
 | d+1,ls,e=>by
  have H:=lY c d;show LH (fh c (cz c d) ls e);unfold fh;refine qz ?_ (qz ?_ (qz ?_ (qz ?_ ?_)))
  ·grind [FM,yQ]
  ·exact rc (H _ _) fun _=>H _ _
  ·split
   ·exact yQ Vc
   ·exact qz (rc (H _ _) fun _=>qz (FM _) (yQ Vc)) (FM _)
  ·split
   ·exact yQ Vc
   ·exact qz (rc (tN (H _) _) fun _=>qz (fun n b n' h=>by cases h) (yQ Vc)) (yQ Vc)
  ·refine rc (tN (H _) _) fun l n b n' h=>?_
   grind
variable {e:Exp}{ls:List ca}{c:Tcx}
def zD{r:List ca->Exp->ie Ty}(h:e.op=12):fh c r ls e= .bind (r ls e.args[0]!) fun t=>r (ls++[(e.s,t)]) e.args[1]!:=by
 simp_all[fh]
def Iz{r:List ca->Exp->ie Ty}(h:e.op=2):fh c r ls e=(match dN (fun z=>z.1== e.s) ls with|some z=>.ok z.2|none=>.er 12):=by
 unfold fh;rw[acL h]
theorem zC{r:List ca->Exp->ie Ty}(h:e.op=17\/e.op=18):fh c r ls e=(match dN (fun z=>z.1== e.s) c.vars with
  |none=>.er 12
  |some z=>if e.op=18 then .bind (r ls e.args[0]!) fun u=>if dH u z.2=true then .ok z.2 else .er 13 else .ok z.2):=by
 unfold fh;grind
theorem qL{r:List ca->Exp->ie Ty}(h:e.op=15):fh c r ls e=(match fD c e with
  |none=>.er 12
  |some s=>if s.1.length=e.args.length then .bind (gM (r ls) e.args) fun l=>if bp dH l s.1=true then fun n=>.ok s.2.1 (zS n s.2.2)else .er 13 else .er 13):=by
 simp_all[fh]
def wu(e:Exp)(l:List Ty):ie Ty:=fun n=>match dX e l with
 |some t=>.ok t (if e.op=16 then zS n e.n else n)
 |none=>.er 13 (if e.op=16 then zS n e.n else n)
def zj{l:List Ty}{t:Ty}(h:dX e l=some t)(n:Int):wu e l n= .ok t (if e.op=16 then zS n e.n else n):=by
 unfold wu;rw[h]
def zi{l:List Ty}(h:dX e l=none)(n:Int):wu e l n= .er 13 (if e.op=16 then zS n e.n else n):=by
 unfold wu;rw[h]
def wC{r:List ca->Exp->ie Ty}(h1:¬e.op=2)(h2:¬e.op=12)(h3:¬(e.op=17\/e.op=18))(h4:¬e.op=15):fh c r ls e= .bind (gM (r ls) e.args) (wu e):=by
 unfold fh;rw[acE h1,acE h2,acE h3,acE h4];rfl
abbrev Lp(e:Exp):Bool:=ey 12 e
def FQ:List aA->List ca->Bool
 |_,[]=>true
 |seen,f:: l=>!(seen.contains f.1)&&ew f.1&&cV f.2&&FQ (seen++[f.1]) l
def jP(l:List ca)(most:Int):Bool:=FQ [] l&&decide ((l.length:Int)<=most)
def KG(f:Fun):Bool:=ew f.name&&jP f.params 6&&cV f.result&&Lp f.body&&(kH f.effects 15== 0)
def wj:List aA->List Fun->Bool
 |_,[]=>true
 |seen,f:: l=>!(seen.contains f.name)&&KG f&&wj (seen++[f.name]) l
def FS:List aA->List aA->Bool
 |_,[]=>true
 |seen,s:: l=>!(seen.contains s)&&ew s&&FS (seen++[s]) l
def BR(m:Mod):Bool:=ew m.name&&decide (m.uses.length<=12)&&decide (m.funcs.length<=30)&&jP m.vars 8&&(m.init.all Lp&&((m.init.length:Int)== m.vars.length))&&(m.moves||decide (m.old.length=0)) &&
 (jP m.old 8&&(m.forward.all Lp&&((m.forward.length:Int)== (if m.moves=true then(m.vars.length:Int)else 0)))&&(m.back.all Lp&&((m.back.length:Int)== m.old.length)))
def cU(m:Mod):Bool:=FS [] m.uses&&(wj [] m.funcs&&BR m)
theorem tU:(l:List ca)->(seen:List aA)->FQ seen l=true->(∀f∈l,ew f.1=true/\cV f.2=true/\f.1 ∉ seen)/\(l.map (·.1)).Nodup
 |[],seen,_=>⟨fun f h=>(by cases h),List.nodup_nil⟩
 |f:: l,seen,h=>by
  simp only[FQ,acB,ade]at h;obtain⟨⟨⟨h1,h2⟩,h3⟩,h4⟩:=h;obtain⟨i1,i2⟩:=tU l _ h4
  grind
theorem BL:(l:List Fun)->(seen:List aA)->wj seen l=true->(∀f∈l,KG f=true/\f.name ∉ seen)/\(l.map (·.name)).Nodup
 |[],seen,_=>⟨fun f h=>(by cases h),List.nodup_nil⟩
 |f:: l,seen,h=>by
  simp only[wj,acB,ade]at h;obtain⟨⟨h1,h2⟩,h4⟩:=h;obtain⟨i1,i2⟩:=BL l _ h4
  grind
structure FunOk (f:Fun):Prop where
 name:ew f.name=true
 plen:f.params.length<=6
 pars:∀z∈f.params,cV z.2=true
 pnames:(f.params.map (·.1)).Nodup
 res:cV f.result=true
 body:ey 12 f.body=true
 eff:kH f.effects 15=0
def U6{f:Fun}(h:KG f=true):FunOk f:=by
 unfold KG jP at h;simp only[acB,acP,ada]at h;obtain⟨⟨⟨⟨h1,h2,h3⟩,h4⟩,h5⟩,h6⟩:=h;obtain⟨i1,i2⟩:=tU _ _ h2;exact⟨h1,WD,fun z hz=>(i1 z hz).2.1,i2,h4,h5,h6⟩
structure ModOk (m:Mod):Prop where
 name:ew m.name=true
 ulen:m.uses.length<=12
 flen:m.funcs.length<=30
 fns:∀f∈m.funcs,FunOk f
 fnames:(m.funcs.map (·.name)).Nodup
 vlen:m.vars.length<=8
 vars:∀z∈m.vars,cV z.2=true
 vnames:(m.vars.map (·.1)).Nodup
 ilen:m.init.length=m.vars.length
 init:∀e∈m.init,ey 12 e=true
 olen:m.old.length<=8
 old:∀z∈m.old,cV z.2=true
 wlen:m.moves=true->m.forward.length=m.vars.length
 forw:∀e∈m.forward,ey 12 e=true
 blen:m.back.length=m.old.length
 back:∀e∈m.back,ey 12 e=true
def mR{m:Mod}(h:cU m=true):ModOk m:=by
 unfold cU BR jP at h;simp only[acB,acP,ada,acQ,adm]at h;obtain⟨h1,h2,⟨⟨⟨⟨⟨h3,h4⟩,h5⟩,h6,h7⟩,h8,h9⟩,h10⟩,⟨⟨h11,h12⟩,h13,h14⟩,h15,h16⟩:=h;obtain⟨f1,f2⟩:=BL _ _ h2;obtain⟨v1,v2⟩:=tU _ _ h6;obtain⟨o1,_⟩:=tU _ _ h11;exact⟨h3,h4,h5,fun f hf=>U6 (f1 f hf).1,f2,WD,fun z hz=>(v1 z hz).2.1,v2,WD,h8,WD,fun z hz=>(o1 z hz).2.1,fun hm=>qr,h13,WD,h15⟩
open Go.RowKit Go.Sort Go.Proofs in
theorem Wh(keys:List aA)(n i j:Nat):ltOf (OW keys n) i j=aU keys[i % n]! keys[j % n]!:=by
 unfold ltOf OW uy
 grind
open Go.RowKit Go.Sort Go.Proofs in
def Zz(keys:List aA)(n:Nat):SWO (ltOf (OW keys n)):=by
 refine⟨fun x=>?_,fun x y z=>?_,fun x y z=>?_⟩
 ·rw[Wh,na]
 ·grind [Wh,iS]
 ·rw[Wh,Wh,Wh];intro h1 h2;cases h3:aU keys[x % n]! keys[z % n]! with
  |false=>rfl
  |true=>
   grind [iS,kL]
open Go.RowKit Go.Sort Go.Proofs in
def FU(keys:List aA):(jZ keys).Perm (List.range keys.length)/\(jZ keys).Pairwise fun i j=>aU keys[j % keys.length]! keys[i % keys.length]! = false:=by
 have h:=pdq_sorts (ltOf (OW keys keys.length)) (Zz keys keys.length) (Array.range keys.length) 0 (Array.range keys.length).size (Lib.bitLen (Array.range keys.length).size) true true (acU _) (acC _) (Or.inl rfl);obtain⟨⟨hs,_,hp⟩,ho⟩:=h;unfold jZ;generalize pdq (ltOf (OW keys keys.length)) (Array.range keys.length) 0 (Array.range keys.length).size (Lib.bitLen (Array.range keys.length).size) true true=d at hs hp ho;refine⟨?_,?_⟩
 ·grind [Array.extract_size]
 ·rw[List.pairwise_iff_getElem];intro i j hi hj hij;simp only[adE]at hi hj
  have:=ho i j (acU _) hij WD
  grind [Wh]
def m8(l:List Sig):List Sig:=(jZ (l.map (·.name))).map fun i=>l[i % l.length]!
def sL(l:List Sig):(m8 l).Perm l:=by
 have h:=(FU (l.map (·.name))).1;rw[adJ]at h;have h2:=h.map fun i=>l[i % l.length]!;refine h2.trans ?_;have e:(List.range l.length).map (fun i=>l[i % l.length]!)=l:=by
  apply aee
  ·simp
  ·grind [Nat.mod_eq_of_lt]
 rw[e]
def JO(f:Fun):Sig:=⟨f.name,f.params.map (·.2),f.result,f.effects⟩
def ni(l:List Fun):List Sig:=(l.filter (·.pub)).map JO
def mG:Face:=⟨[],[]⟩
def pJ(m:Mod):Face:=if cU m=true then⟨m.name,m8 (ni m.funcs)⟩else mG
theorem QO{m:Mod}(hm:m.Lim):(pJ m).Lim:=by
 unfold pJ;split
 ·rename_i hr;have hl:(m8 (ni m.funcs)).length<=30:=by
   rw[(sL _).length_eq];unfold ni;rw[adJ];exact adi (aeV _ _) (mR hr).flen
  refine⟨qr,fun s hs=>?_⟩;have hs':s∈ni m.funcs:=(sL _).mem_iff.1 hs;unfold ni at hs';obtain⟨f,hf,rfl⟩:=adj.1 hs';have hf':=hm.fns f (aeK.1 hf).1;refine⟨?_,fun t ht=>?_,hf'.result⟩
  ·show (f.params.map (·.2)).length<=_;rw[adJ];exact hf'.params
  ·obtain⟨z,hz,rfl⟩:=adj.1 ht;exact hf'.pty z hz
 ·exact⟨Vc,fun s hs=>by cases hs⟩
def gH(m:Mod)(fs:List Face):Tcx:=⟨m.vars,m.funcs,m.uses,fun s=>fs.find? fun f=>f.module== s⟩
def eP:List Face->List Face->List Face
 |acc,[]=>acc
 |acc,f:: fs=>eP (if(acc.find? fun g=>g.module== f.module).isSome=true then acc else acc++[f]) fs
def LJ(m:Mod)(fs:List Face):List (aA×Int):=m.funcs.map fun f=>(f.name,KH (gH m fs) f)
def rL(m:Mod)(fs:List Face):List (aA×Int):=m.uses.map fun u=>(u,if(fs.find? fun f=>f.module== u).isNone||u== m.name then 12 else 0)
def fK(m:Mod)(fs:List Face):aA×Int:=if(fs.all mH&&cU m)=true then cT (rL m (eP [] fs)++qx m:: LJ m (eP [] fs))else([],1)
theorem Jd:{l:List (aA×Int)} ->(cT l).2=0->∀x∈l,x.2=0
 |[],_,x,hx=>by cases hx
 | y:: l,h,x,hx=>by
  unfold cT at h;split at h
  ·rename_i hy;rcases ac2.1 hx with rfl|hx
   ·exact hy
   ·exact Jd h x hx
  grind
variable {t:Nat}{ti:TI}
def sx{T:TT}(ht:T t=some ti)(ha:ti.agg=false){h:Hp}{l k:Nat}{cs:List AV}{v:AV}(h0:h[l]? = some cs)(h1:cs[k]? = some v):bM T t (.hp l k) h= .ok v h:=by
 simp[bM,ht,h0,ha,h1]
def NB{T:TT}(ht:T t=some ti)(ha:ti.agg=true){h:Hp}{l k:Nat}{cs:List AV}(h0:h[l]? = some cs)(hle:k+ti.size<=cs.length):bM T t (.hp l k) h= .ok (.agg ((cs.drop k).take ti.size)) h:=by
 simp[bM,ht,h0,ha,hle]
def DL{T:TT}(ht:T t=some ti){h:Hp}{l k:Nat}{cs:List AV}{v:AV}(h0:h[l]? = some cs)(hv:cn ti.size v=true)(hle:k+ti.size<=cs.length)(hp:0<ti.size):
  cG T t (.hp l k) v h= .ok (.tup []) (h.set l (setCells cs k (ab v))):=by
 simp[cG,ht,h0,hv,hle,hp]
def RG{T:TT}{e:Nat}{ei:TI}(ht:T t=some ti)(hk:ti.kind= .slice e)(he:T e=some ei){x:AV}(hx:cn ei.size x=true)(hb:0<ei.bytes)(hs:0<ei.size)(hc:ei.bytes<=140737488355328)(h:Hp):
  appH T t false .hn (.sl [x]) h= .ok (.hs h.length 0 1 ei.size ei.agg) (h++[ab x]):=by
 simp_all[dK,appH,jX,nd]
def RH{T:TT}{e:Nat}{ei:TI}(ht:T t=some ti)(hk:ti.kind= .slice e)(he:T e=some ei){x:AV}(hx:cn ei.size x=true)(hb:0<ei.bytes)(hs:0<ei.size){h:Hp}{q n:Nat}{cs:List AV}(h0:h[q]? = some cs)(hok:cs.all aO=true)(hl:cs.length=n*ei.size)(hn:0<n)(hc:(n+1)*ei.bytes<=140737488355328):appH T t false (.hs q 0 n ei.size ei.agg) (.sl [x]) h= .ok (.hs h.length 0 (n+1) ei.size ei.agg) ((h.set q [])++[cs++ab x]):=by
 have h1:dK ei.size [x]=true:=by simp[dK,hx]
 have h2:List.all cs aO=true:=hok;have h3:0<n*ei.size:=Nat.mul_pos hn hs;have h4:cs.take (n*ei.size)=cs:=by rw[<- hl];exact adV
 simp only[appH,ht,hk,he,jX,h1,hb,hs,nd,h0,h2,hl,acX,aea,acD,adU,ad2,List.isEmpty_cons,acO,aeg,List.flatMap_nil,adL,h3,h4,acC]
 grind
theorem E5{V:Type}(k r:aX)(v:V):∀l:List (aX×V),jL (kX l k v) r=if k=r then some v else jL l r
 |[]=>by simp[kX,jL]
 | x:: l=>by
  simp only[kX];by_cases h:x.1=k
  ·subst h;simp only[acK,jL];split<;>rfl
  ·simp only[h,acI,jL,E5 k r v l];by_cases h1:x.1=r
   ·have:¬k=r:=fun e=>h (h1.trans e.symm);simp[h1,this]
   ·simp[h1]
variable {V:Type}
def M6{l:List (aX×V)}{r:aX}{v:V}(h:jL l r=some v):(r,v)∈l:=by
 induction l with
 |nil=>cases h
 |cons x l ih=>
  simp only[jL]at h;split at h
  ·rename_i e;cases h;subst e;exact ad8
  ·exact adA _ (ih h)
theorem qW{V:Type}{l:List (aX×V)}{r:aX}:jL l r=none↔r ∉ l.map (·.1):=by
 induction l with
 |nil=>simp[jL]
 | cons x l ih=>
  simp only[jL,ac3,ac2,not_or];by_cases h:x.1=r
  ·simp[h]
  ·have h':¬r=x.1:=fun e=>h e.symm;simp[h,h',ih]
def yq{l:List (aX×V)}(hn:(l.map (·.1)).Nodup){r:aX}{v:V}(h:(r,v)∈l):jL l r=some v:=by
 induction l with
 |nil=>cases h
 | cons x l ih=>
  simp only[ac3,ad1]at hn;simp only[jL];rcases ac2.1 h with rfl|h
  ·simp
  ·have:¬x.1=r:=fun e=>hn.1 (by rw[e];exact List.mem_map_of_mem (f:=(·.1)) h);simp[this,ih hn.2 h]
theorem uZ{V:Type}(k:aX)(v:V):∀l:List (aX×V),(kX l k v).map (·.1)=if k∈l.map (·.1)then l.map (·.1)else l.map (·.1)++[k]
 |[]=>rfl
 | x:: l=>by
  simp only[kX];by_cases h:x.1=k
  ·subst h;simp
  ·have h':¬k=x.1:=fun e=>h e.symm;simp only[h,acI,ac3,uZ k v l,ac2,h',false_or];split<;>rfl
def zd(k:aX)(v:V)(l:List (aX×V))(h:(l.map (·.1)).Nodup):((kX l k v).map (·.1)).Nodup:=by
 rw[uZ];split
 ·exact h
 ·rename_i hk;exact aeP.2 ⟨h,AI,fun a ha b hb e=>by simp at hb;subst hb;subst e;exact hk ha⟩
def F5(k r:aX)(v:V)(l:List (aX×V)):r∈(kX l k v).map (·.1)↔r=k\/r∈l.map (·.1):=by
 rw[uZ];split
 ·rename_i h;constructor
  ·exact .inr
  ·rintro (rfl|h2);exact h;exact h2
 ·rw[acZ,adk];exact⟨fun h=>h.symm,fun h=>h.symm⟩
def A4(l:List (aA×List (aA×V)))(r:aX):Option V:=match l.find? (fun m=>m.1== r.1)with
 |some m=>(m.2.find? fun f=>f.1== r.2).map (·.2)
 |none=>none
theorem Bd{V:Type}(m:aA)(r:aX):∀(l:List (aA×V))(out:List (aX×V)),jL (se m l out) r=if r.1=m then(match l.find? (fun f=>f.1== r.2)with|some f=>some f.2|none=>jL out r)else jL out r
 |[],out=>by simp[se]
 | f:: l,out=>by
  have ih:=Bd m r l out;show jL (kX (se m l out) (m,f.1) f.2) r=_;rw[E5,ih];by_cases h1:r.1=m
  ·by_cases h2:f.1=r.2
   ·have e:((m,f.1):aX)=r:=Prod.ext h1.symm h2;simp[h1,h2,e,adS];rw[<- h1,<- h2]at *;simp[e]
   ·have e:¬((m,f.1):aX)=r:=fun e=>h2 (by rw[<- e]);have e2:(f.1== r.2)=false:=acM.2 h2;simp[h1,e,adS,e2]
  ·have e:¬((m,f.1):aX)=r:=fun e=>h1 (by rw[<- e]);simp[h1,e]
theorem Bf{V:Type}(m:aA):∀(l:List (aA×V))(out:List (aX×V))(r:aX),r∈(se m l out).map (·.1)↔(r.1=m/\r.2∈l.map (·.1))\/r∈out.map (·.1)
 |[],out,r=>by simp[se]
 | f:: l,out,r=>by
  show r∈(kX (se m l out) (m,f.1) f.2).map (·.1)↔_;rw[F5,Bf m l out r];constructor
  ·rintro (rfl|⟨h1,h2⟩|h)
   ·exact .inl ⟨rfl,AI⟩
   ·exact .inl ⟨h1,by simp[h2]⟩
   ·exact .inr h
  ·rintro (⟨h1,h2⟩|h)
   ·rcases ac2.1 h2 with h2|h2
    ·exact .inl (Prod.ext h1 h2)
    ·exact .inr (.inl ⟨h1,h2⟩)
   ·exact .inr (.inr h)
theorem uH{V:Type}(r:aX):∀(l:List (aA×List (aA×V)))(seen:List aA)(out:List (aX×V)),(∀k∈out.map (·.1),k.1∈seen)->jL (nM l seen out) r=if r.1∈seen then jL out r else A4 l r
 | [],seen,out,ho=>by
  simp only[nM,A4,List.find?_nil];split
  ·rfl
  ·rename_i h;exact qW.2 fun hk=>h (ho r hk)
 | m:: l,seen,out,ho=>by
  simp only[nM];by_cases hm:m.1∈seen
  ·rw[acL hm,uH r l seen out ho];split
   ·rfl
   ·rename_i h;have:(m.1== r.1)=false:=acM.2 fun e=>h (e▸hm);simp[A4,adS,this]
  ·rw[acE hm,uH r l (seen++[m.1]) (se m.1 m.2 out) (fun k hk=>by
    rcases (Bf m.1 m.2 out k).1 hk with⟨h,_⟩|h
    ·simp[h]
    ·simp[ho k h]),Bd]
   by_cases hr:r.1=m.1
   ·have h1:r.1∈seen++[m.1]:=by simp[hr]
    have h2:¬r.1∈seen:=by rw[hr];exact hm
    have h3:jL out r=none:=qW.2 fun hk=>h2 (ho r hk);have h4:(m.1== r.1)=true:=ada.2 hr.symm;rw[acL h1,acE h2,acL hr,h3];simp only[A4,adS,h4];cases m.2.find? (fun f=>f.1== r.2)<;>rfl
   ·have h4:(m.1== r.1)=false:=acM.2 fun e=>hr e.symm;have h1:r.1∈seen++[m.1]↔r.1∈seen:=by simp[hr]
    simp only[h1,hr,acI,A4,adS,h4]
theorem sf{V:Type}:∀(l:List (aA×List (aA×V)))(seen:List aA)(out:List (aX×V)),(out.map (·.1)).Nodup->((nM l seen out).map (·.1)).Nodup
 |[],_,_,h=>h
 | m:: l,seen,out,h=>by
  simp only[nM];split
  ·exact sf l seen out h
  ·refine sf l _ _ ?_;have:∀(fs:List (aA×V)),((se m.1 fs out).map (·.1)).Nodup:=by
    intro fs
    induction fs with
    |nil=>exact h
    |cons f fs ih=>exact zd _ _ _ ih
   exact this m.2
theorem FZ{V W:Type}(g:V->W)(k:aX)(v:V):∀l:List (aX×V),kX (l.map fun x=>(x.1,g x.2)) k (g v)=(kX l k v).map fun x=>(x.1,g x.2)
 |[]=>rfl
 |x:: l=>by
  simp only[ac3,kX];split
  ·rfl
  ·rw[FZ g k v l];rfl
theorem Fb{V W:Type}(g:V->W)(m:aA)(out:List (aX×V)):∀l:List (aA×V),se m (l.map fun x=>(x.1,g x.2)) (out.map fun x=>(x.1,g x.2))=(se m l out).map fun x=>(x.1,g x.2)
 |[]=>rfl
 |f:: l=>by
  show kX (se m (l.map fun x=>(x.1,g x.2)) (out.map fun x=>(x.1,g x.2))) (m,f.1) (g f.2)=_;rw[Fb g m out l,FZ];rfl
theorem yx{V W:Type}(g:V->W):∀(l:List (aA×List (aA×V)))(seen:List aA)(out:List (aX×V)),nM (l.map fun m=>(m.1,m.2.map fun x=>(x.1,g x.2))) seen (out.map fun x=>(x.1,g x.2))=(nM l seen out).map fun x=>(x.1,g x.2)
 |[],_,_=>rfl
 |m:: l,seen,out=>by
  simp only[ac3,nM];split
  ·exact yx g l seen out
  ·rw[Fb,yx g l]
def uV(m:Mod):aA×List (aA×Fun):=(m.name,m.funcs.map fun f=>(f.name,f))
def mN(p:List Mod):List (aX×Fun):=nM (p.map uV) [] []
def dq(p:List Mod)(r:aX):Option Fun:=match p.find? (fun m=>m.name== r.1)with
 |some m=>m.funcs.find? fun f=>f.name== r.2
 |none=>none
theorem Jp(p:List Mod)(r:aX):jL (mN p) r=dq p r:=by
 unfold mN;rw[uH r _ [] [] AI,acE AI];unfold A4 dq;rw[List.find?_map];have:((fun m:aA×List (aA×Fun)=>m.1== r.1) ∘ uV)=fun m:Mod=>m.name== r.1:=rfl;rw[this];cases p.find? (fun m=>m.name== r.1)with
 |none=>rfl
 |some m=>
  simp only[adv,uV];rw[List.find?_map];have:((fun f:aA×Fun=>f.1== r.2) ∘ fun f:Fun=>(f.name,f))=fun f:Fun=>f.name== r.2:=rfl;rw[this];cases m.funcs.find? (fun f=>f.name== r.2)<;>rfl
def KT(p:List Mod):((mN p).map (·.1)).Nodup:=sf _ _ _ AI
mutual
def je:Exp->List Exp
 |.mk o n s m ns es=>.mk o n s m ns es:: w8 es
def w8:List Exp->List Exp
 |[]=>[]
 |e:: es=>je e++w8 es
end
theorem tP:∀l:List Exp,w8 l=l.flatMap je
 |[]=>rfl
 |e:: l=>by simp[w8,tP l]
theorem re(e:Exp):je e=e:: e.args.flatMap je:=by
 cases e with
 |mk o n s m ns es=>simp only[je,tP];rfl
def Sd:Exp:=.mk 0 0 [] [] [] []
def J2:Fun:=⟨[],false,[],.mk 0 [],0,Sd⟩
def xc(f:aX)(e:Exp):aX:=(if e.m=[]then f.1 else e.m,e.s)
def xy(p:List Mod)(f:aX)(e:Exp):Bool:=e.op== 15&&(match dq p (xc f e)with|some g=>e.m== []||g.pub|none=>false)
def vG(p:List Mod)(f:aX):Exp:=((dq p f).getD J2).body
def qk(p:List Mod)(f:aX)(o:List (aX×Bool))(e:Exp):List (aX×Bool):=if xy p f e then kX o (xc f e) true else o
def found(p:List Mod)(f:aX):List (aX×Bool):=(je (vG p f)).foldl (qk p f) []
def gg(p:List Mod)(f:aX):List aX:=iD ((found p f).map (·.1))
theorem A8(p:List Mod)(f r:aX):∀(l:List Exp)(o:List (aX×Bool)),r∈(l.foldl (qk p f) o).map (·.1)↔(∃e∈l,xy p f e=true/\r=xc f e)\/r∈o.map (·.1)
 |[],o=>AI
 | e :: l,o=>by
  simp only[aeX];rw[A8 p f r l,qk];by_cases h:xy p f e=true
  ·rw[acL h,F5];constructor
   ·rintro (⟨e',h1,h2⟩|rfl|h1)
    ·exact .inl ⟨e',by simp[h1],h2⟩
    ·exact .inl ⟨e,AI,h,rfl⟩
    ·exact .inr h1
   ·rintro (⟨e',h1,h2,h3⟩|h1)
    ·rcases ac2.1 h1 with rfl|h1
     ·exact .inr (.inl h3)
     ·exact .inl ⟨e',h1,h2,h3⟩
    ·exact .inr (.inr h1)
  ·rw[acE h];constructor
   ·rintro (⟨e',h1,h2⟩|h1)
    ·exact .inl ⟨e',by simp[h1],h2⟩
    ·exact .inr h1
   ·rintro (⟨e',h1,h2,h3⟩|h1)
    ·rcases ac2.1 h1 with rfl|h1
     ·exact absurd h2 h
     ·exact .inl ⟨e',h1,h2,h3⟩
    ·exact .inr h1
theorem vW(p:List Mod)(f:aX):∀(l:List Exp)(o:List (aX×Bool)),(o.map (·.1)).Nodup->((l.foldl (qk p f) o).map (·.1)).Nodup
 |[],o,h=>h
 |e:: l,o,h=>by
  simp only[aeX];refine vW p f l _ ?_;unfold qk;split
  ·exact zd _ _ _ h
  ·exact h
variable {p:List Mod}
def BE{f r:aX}:r∈gg p f↔∃e∈je (vG p f),xy p f e=true/\r=xc f e:=by
 unfold gg;rw[(gu _).mem_iff];unfold found;rw[A8];simp
def pX(p:List Mod)(f:aX):(gg p f).Nodup:=(gu _).nodup_iff.2 (vW p f _ [] AI)
def Ex{f r:aX}(h:r∈gg p f):(dq p r).isSome=true:=by
 obtain⟨e,_,h2,rfl⟩:=BE.1 h;unfold xy at h2;cases hf:dq p (xc f e)with
 |none=>rw[hf]at h2;simp at h2
 |some g=>rfl
def FN(C:aX->List aX)(D:List (aX×List aX))(x:aX)(c:List aX):List (aX×List aX):=((C x).filter fun r=>!(D.map (·.1)).contains r).map fun r=>(r,c++[r])
def s6(C:aX->List aX):Nat->Nat->List (aX×List aX)->List (aX×List aX)
 |0,_,D=>D
 |n+1,k,D=>match D[k]? with
  |none=>D
  |some (x,c)=>s6 C n (k+1) (D++FN C D x c)
def iJ(p:List Mod)(f:aX):List (aX×List aX):=if(dq p f).isSome then s6 (gg p) ((mN p).length+1) 0 [(f,[f])]else[]
theorem kJ{α:Type}[DecidableEq α]:∀ {l m:List α},l.Nodup->(∀x∈l,x∈m)->l.length<=m.length
 |[],m,_,_=>acU _
 | x:: l,m,hn,hs=>by
  have hx:=hs x ad8
  have:=kJ (l:=l) (m:=m.erase x) (ad1.1 hn).2 (fun y hy=>by
   have hne:y≠x:=fun e=>(ad1.1 hn).1 (e▸hy);exact (List.mem_erase_of_ne hne).2 (hs y (adA _ hy)))
  rw[List.length_erase_of_mem hx]at this
  have:=List.length_pos_of_mem hx
  simp only[acR];omega
def zB(c:List aX)(D:List (aX×List aX))(r:aX):List (aX×List aX):=if r∈D.map (·.1)then D else D++[(r,c++[r])]
theorem Gv(c:List aX):∀(l:List aX)(D:List (aX×List aX)),l.Nodup->l.foldl (zB c) D=D++((l.filter fun r=>!(D.map (·.1)).contains r).map fun r=>(r,c++[r]))
 |[],D,_=>AI
 | r:: l,D,hn=>by
  obtain⟨h1,h2⟩:=ad1.1 hn;simp only[aeX];rw[Gv c l _ h2];unfold zB;by_cases hr:r∈D.map (·.1)
  ·have:(!(D.map (·.1)).contains r)=false:=by simpa using hr
   rw[acL hr,List.filter_cons_of_neg (p:=fun r=>!(D.map (·.1)).contains r) (by rw[this];simp)]
  ·have h3:(!(D.map (·.1)).contains r)=true:=by simpa using hr
   rw[acE hr,List.filter_cons_of_pos (p:=fun r=>!(D.map (·.1)).contains r) h3];simp only[ac3,aec,ac1,acT];congr 2;congr 1;apply aeO;intro y hy;have hne:y≠r:=fun e=>h1 (e▸hy);simp[hne]
def QK(C:aX->List aX)(D:List (aX×List aX))(x:aX)(c:List aX)(h:(C x).Nodup):(C x).foldl (zB c) D=D++FN C D x c:=Gv c _ _ h
def tO{C:aX->List aX}{D:List (aX×List aX)}{x:aX}{c:List aX}{e:aX×List aX}:e∈FN C D x c↔e.1∈C x/\e.1 ∉ D.map (·.1)/\e.2=c++[e.1]:=by
 unfold FN;rw[adj];constructor
 ·rintro⟨r,hr,rfl⟩;rw[aeK]at hr;exact⟨hr.1,by simpa using hr.2,rfl⟩
 ·rintro⟨h1,h2,h3⟩;exact⟨e.1,aeK.2 ⟨h1,by simpa using h2⟩,by rw[<- h3]⟩
structure DInv (p:List Mod) (f:aX) (k:Nat) (D:List (aX×List aX)):Prop where
 nodup:(D.map (·.1)).Nodup
 inn:∀e∈D,(dq p e.1).isSome=true
 chain:∀e∈D,e=(f,[f])\/∃y c,(y,c)∈D/\e.1∈gg p y/\e.2=c++[e.1]
 closed:∀i e,i<k->D[i]? = some e->∀r∈gg p e.1,r∈D.map (·.1)
 start:(f,[f])∈D
def yz(p:List Mod)(r:aX):r∈(mN p).map (·.1)↔(dq p r).isSome=true:=by
 have:=@qW Fun (mN p) r
 rw[Jp]at this;cases h:dq p r with
 |none=>rw[h]at this;simpa using this.1 rfl
 |some g=>rw[h]at this;simpa using this
def DInv.len{f:aX}{k:Nat}{D:List (aX×List aX)}(I:DInv p f k D):D.length<=(mN p).length:=by
 have:=kJ (l:=D.map (·.1)) (m:=(mN p).map (·.1)) I.nodup (fun x hx=>by
  obtain⟨e,he,rfl⟩:=adj.1 hx;exact (yz p _).2 (I.inn e he))
 simpa using this
def DInv.zero{f:aX}(h:(dq p f).isSome=true):DInv p f 0 [(f,[f])] where
 nodup:=AI
 inn:=fun e he=>by rw[adk.1 he];exact h
 chain:=fun e he=>.inl (adk.1 he)
 closed:=fun i e hi=>WD
 start:=adk.2 rfl
def DInv.step{f:aX}{k:Nat}{D:List (aX×List aX)}(I:DInv p f k D){x:aX}{c:List aX}(hk:D[k]? = some (x,c)):DInv p f (k+1) (D++FN (gg p) D x c) where
 nodup:=by
  rw[adO,aeP];refine⟨I.nodup,?_,fun a ha b hb e=>?_⟩
  ·have:(FN (gg p) D x c).map (·.1)=(gg p x).filter fun r=>!(D.map (·.1)).contains r:=by
    unfold FN;rw[adW];exact List.map_id _
   rw[this];exact (pX p x).filter _
  ·obtain⟨y,hy,rfl⟩:=adj.1 hb;exact (tO.1 hy).2.1 (e▸ha)
 inn:=fun e he=>by
  rcases acZ.1 he with he|he
  ·exact I.inn e he
  ·exact Ex (tO.1 he).1
 chain:=fun e he=>by
  rcases acZ.1 he with he|he
  ·rcases I.chain e he with h|⟨y,c',h1,h2⟩
   ·exact .inl h
   ·exact .inr ⟨y,c',adB _ h1,h2⟩
  ·obtain⟨h1,h2,h3⟩:=tO.1 he;exact .inr ⟨x,c,adB _ (adl hk),h1,h3⟩
 closed:=fun i e hi he r hr=>by
  rw[adO,acZ];have hkl:k<D.length:=(acJ.1 hk).1;rw[ac6 WD]at he;by_cases h:i<k
  ·exact .inl (I.closed i e h he r hr)
  ·obtain rfl:i=k:=WD
   rw[hk]at he;cases he;by_cases hm:r∈D.map (·.1)
   ·exact .inl hm
   ·exact .inr (adj.2 ⟨(r,c++[r]),tO.2 ⟨hr,hm,rfl⟩,rfl⟩)
 start:=adB _ I.start
theorem I0{p:List Mod}{f:aX}:∀(n k:Nat)(D:List (aX×List aX)),DInv p f k D->(mN p).length<=k+n->DInv p f (s6 (gg p) n k D).length (s6 (gg p) n k D)
 |0,k,D,I,h=>by
  have:=I.len
  exact⟨I.nodup,I.inn,I.chain,fun i e hi he=>I.closed i e (by simp only[s6]at hi;omega) he,I.start⟩
 | n+1,k,D,I,h=>by
  simp only[s6];cases hk:D[k]? with
  |none=>
   have:=aeL.1 hk
   exact⟨I.nodup,I.inn,I.chain,fun i e hi he=>I.closed i e (by simp only at hi;omega) he,I.start⟩
  |some e=>
   obtain⟨x,c⟩:=e;exact I0 n (k+1) _ (I.step hk) WD
def u6{f:aX}(h:(dq p f).isSome=true):DInv p f (iJ p f).length (iJ p f):=by
 unfold iJ;rw[acL h];exact I0 _ 0 _ (DInv.zero h) WD
def Dv{f:aX}{x:aX}(hx:x∈(iJ p f).map (·.1)):∀r∈gg p x,r∈(iJ p f).map (·.1):=by
 by_cases h:(dq p f).isSome=true
 ·obtain⟨e,he,rfl⟩:=adj.1 hx;obtain⟨i,hi,rfl⟩:=aew he;exact (u6 h).closed i _ hi (acH hi)
 ·unfold iJ at hx;rw[acE h]at hx;cases hx
def Ij(e:aX×List aX):aX×aX:=(e.1,e.2.dropLast.getLastD e.1)
theorem Ll(c:List aX)(r y:aX)(hc:c.getLast? = some y):Ij (r,c++[r])=(r,y):=by
 simp[Ij,List.getLastD_eq_getLast?,hc]
def DInv.last{f:aX}{k:Nat}{D:List (aX×List aX)}(I:DInv p f k D){e:aX×List aX}(he:e∈D):e.2.getLast? = some e.1:=by
 rcases I.chain e he with rfl|⟨y,c,_,_,h⟩
 ·rfl
 ·rw[h];simp
def wN(D:List (aX×List aX)):List AV:=[.tup ((D.map Ij).map (gB dj))]
end Go.Av.Ap
namespace Go.Av.Ap
variable {α:Type}
def aJ(nm:α->aA)(l:List α)(s:aA):List α:=(l.find? fun x=>nm x== s).toList
def dS(nm:α->aA)(same:α->α->Bool)(base mine theirs:List α):List α->List α->List aA->List α×aA×Bool
 |[],out,_=>(out,[],true)
 |x:: xs,out,done=>
  if done.contains (nm x)=true then dS nm same base mine theirs xs out done
  else if bp same (aJ nm base (nm x)) (aJ nm mine (nm x))=true then dS nm same base mine theirs xs (out++aJ nm theirs (nm x)) (done++[nm x])
  else if bp same (aJ nm base (nm x)) (aJ nm theirs (nm x))=true\/bp same (aJ nm mine (nm x)) (aJ nm theirs (nm x))=true then dS nm same base mine theirs xs (out++aJ nm mine (nm x)) (done++[nm x])
  else([],nm x,false)
def cb(nm:α->aA)(same:α->α->Bool)(base mine theirs:List α):List α×aA×Bool:=dS nm same base mine theirs (base++(mine++theirs)) [] []
theorem oh(F:α->Bool):∀(l:List α)(i:Int),0<=i->(aL F l i= -1/\l.find? F=none)\/∃(k:Nat)(hk:k<l.length),aL F l i=i+k/\l.find? F=some l[k]
 |[],i,_=>.inl ⟨rfl,rfl⟩
 | x:: l,i,hi=>by
  cases h:F x with
  |true=>exact .inr ⟨0,AI,by simp[aL,h],by simp[h]⟩
  |false=>
   rcases oh F l (i+1) (WD)with⟨h1,h2⟩|⟨k,hk,h1,h2⟩
   ·exact .inl ⟨by simp[aL,h,h1],by simp[h,h2]⟩
   ·exact .inr ⟨k+1,by simp;omega,by simp[aL,h,h1];omega,by simp[h,h2]⟩
theorem eY(nm:α->aA)(l:List α)(s:aA):(aJ nm l s).length<=1:=by
 unfold aJ;cases l.find? fun x=>nm x== s<;>simp
theorem eV(nm:α->aA){l:List α}{s:aA}{x:α}(h:x∈aJ nm l s):x∈l/\nm x=s:=by
 unfold aJ at h;rw[ae9]at h;exact⟨adD h,by simpa using aeB h⟩
end Go.Av.Ap
namespace Go.Av
def nE{T:TT}{t e:Nat}{ti ei:TI}(ht:T t=some ti)(hk:ti.kind= .slice e)(he:T e=some ei)(es:List AV)(hok:dK ei.size es=true){a b:Int}(h0:0<=a)(h1:a<=b)(h2:b<=es.length):eR T t (.sl es) (some (.int .i64 a)) (some (.int .i64 b)) none=some (.sl ((es.take b.toNat).drop a.toNat)):=by
 unfold eR;rw[ht];have h3:0<=b:=WD
 have h4:a<=max b 0:=WD
 simp[hk,he,dO,h0,h2,h3,h4,hok]
end Go.Av
namespace Go.Av.Ap
mutual
def jF:Ty->Ty->Bool
 |.mk k fs,.mk k' fs'=>k== k'&&pr fs fs'
def pr:List ca->List ca->Bool
 |[],[]=>true
 |f:: l,g:: m=>DC f g&&pr l m
 |_,_=>false
def DC:aA×Ty->aA×Ty->Bool
 |(s,t),(s',t')=>s== s'&&jF t t'
end
def Lu(f g:ca):DC f g=(f.1== g.1&&jF f.2 g.2):=by
 obtain⟨s,t⟩:=f;obtain⟨s',t'⟩:=g;rfl
theorem ww:(a b:List ca)->pr a b=bp (fun x y=>x.1== y.1&&jF x.2 y.2) a b
 |[],[]=>rfl
 |[],_:: _=>rfl
 |_:: _,[]=>rfl
 |v:: a,w:: b=>by simp only[pr,bp,ww a b,Lu]
def Gk(a b:Ty):jF a b=(a.kind== b.kind&&bp (fun x y=>x.1== y.1&&jF x.2 y.2) a.fields b.fields):=by
 cases a;cases b;simp only[jF,ww,Ty.kind,Ty.fields]
mutual
def j9:Exp->Exp->Bool
 |.mk o n s m ns es,.mk o' n' s' m' ns' es'=>o== o'&&n== n'&&s== s'&&m== m'&&ns== ns'&&pp es es'
def pp:List Exp->List Exp->Bool
 |[],[]=>true
 |f:: l,g:: m=>j9 f g&&pp l m
 |_,_=>false
end
theorem wv:(a b:List Exp)->pp a b=bp j9 a b
 |[],[]=>rfl
 |[],_:: _=>rfl
 |_:: _,[]=>rfl
 |v:: a,w:: b=>by simp only[pp,bp,wv a b]
def Gh(a b:Exp):j9 a b=(a.op== b.op&&a.n== b.n&&a.s== b.s&&a.m== b.m&&a.names== b.names&&bp j9 a.args b.args):=by
 cases a;cases b;simp only[j9,wv,Exp.op,Exp.n,Exp.s,Exp.m,Exp.names,Exp.args]
def R9{e:Ty}{x:ca}(h:x∈e.fields):SizeOf.sizeOf x.2<SizeOf.sizeOf e:=by
 cases e with
 |mk k fs=>
  have h1:=ad3 h;have h2:SizeOf.sizeOf x.2<SizeOf.sizeOf x:=by cases x;simp;omega
  have h3:SizeOf.sizeOf x<SizeOf.sizeOf fs:=h1;simp only[Ty.mk.sizeOf_spec];show SizeOf.sizeOf x.2<1+SizeOf.sizeOf k+SizeOf.sizeOf fs;omega
def MQ{e x:Exp}(h:x∈e.args):SizeOf.sizeOf x<SizeOf.sizeOf e:=by
 cases e with
 |mk o n s m ns es=>
  have h1:=ad3 h;have h3:SizeOf.sizeOf x<SizeOf.sizeOf es:=h1;simp only[Exp.mk.sizeOf_spec];omega
theorem FT:∀(l:List aA)(seen:List aA),FS seen l=true↔(∀s∈l,ew s=true/\s ∉ seen)/\l.Nodup
 |[],seen=>by simp[FS]
 | s:: l,seen=>by
  have hc:seen.contains s=false↔s ∉ seen:=by
   rw[<- aej,aeo]
  simp only[FS,acB,ade,hc,FT l,ad1,ac2,forall_eq_or_imp,acZ,not_or];constructor
  ·rintro⟨⟨h1,h2⟩,h3,h4⟩;exact⟨⟨⟨h2,h1⟩,fun t ht=>⟨(h3 t ht).1,(h3 t ht).2.1⟩⟩,fun hm=>(h3 s hm).2.2.1 rfl,h4⟩
  ·rintro⟨⟨⟨h2,h1⟩,h3⟩,h4,h5⟩;exact⟨⟨h1,h2⟩,fun t ht=>⟨(h3 t ht).1,(h3 t ht).2,fun e=>h4 (e▸ht),fun e=>(by cases e)⟩,h5⟩
end Go.Av.Ap
namespace Go.Av.Ap
variable {α:Type}
mutual
theorem oI:∀(a b:Ty),jF a b=true↔a=b
 |.mk k fs,.mk k' fs'=>by simp only[jF,acB,ada,zr fs fs',Ty.mk.injEq]
theorem zr:∀(a b:List ca),pr a b=true↔a=b
 |[],[]=>by simp[pr]
 |[],_:: _=>by simp[pr]
 |_:: _,[]=>by simp[pr]
 |f:: l,g:: m=>by simp only[pr,acB,Iu f g,zr l m,adN]
theorem Iu:∀(a b:aA×Ty),DC a b=true↔a=b
 |(s,t),(s',t')=>by simp only[DC,acB,ada,oI t t',ado]
end
mutual
theorem rp:∀(a b:Exp),j9 a b=true↔a=b
 |.mk o n s m ns es,.mk o' n' s' m' ns' es'=>by simp only[j9,acB,ada,zp es es',Exp.mk.injEq,and_assoc]
theorem zp:∀(a b:List Exp),pp a b=true↔a=b
 |[],[]=>by simp[pp]
 |[],_:: _=>by simp[pp]
 |_:: _,[]=>by simp[pp]
 |f:: l,g:: m=>by simp only[pp,acB,rp f g,zp l m,adN]
end
theorem Ef(F:α->α->Bool)(h:∀x y,F x y=true↔x=y):∀(a b:List α),bp F a b=true↔a=b
 |[],[]=>by simp[bp]
 |[],_:: _=>by simp[bp]
 |_:: _,[]=>by simp[bp]
 |x:: a,y:: b=>by simp only[bp,acB,h x y,Ef F h a b,adN]
theorem KC{nm:α->aA}{same:α->α->Bool}(h:∀x y,nm x=nm y->(same x y=true↔x=y))(a b:List α)(s:aA):bp same (aJ nm a s) (aJ nm b s)=true↔aJ nm a s=aJ nm b s:=by
 have ha:=fun x (hx:x∈aJ nm a s)=>(eV nm hx).2;have hb:=fun x (hx:x∈aJ nm b s)=>(eV nm hx).2;have la:=eY nm a s;have lb:=eY nm b s;generalize aJ nm a s=l at *;generalize aJ nm b s=m at *
 match l,m,la,lb with
 |[],[],_,_=>simp[bp]
 |[],[y],_,_=>simp[bp]
 |[x],[],_,_=>simp[bp]
 |[x],[y],_,_=>
  have:=h x y ((ha x AI).trans (hb y AI).symm)
  simp[bp,this]
def pick(nm:α->aA)(same:α->α->Bool)(a b c:List α)(s:aA):List α:=if bp same (aJ nm a s) (aJ nm b s)=true then aJ nm c s else aJ nm b s
theorem qV{nm:α->aA}{l:List α}{s:aA}:aJ nm l s=[]↔s ∉ l.map nm:=by
 unfold aJ;simp_all
theorem tk(nm:α->aA)(l m:List α)(s:aA):aJ nm (l++m) s=if s∈l.map nm then aJ nm l s else aJ nm m s:=by
 unfold aJ;rw[aeE];by_cases h:s∈l.map nm
 ·rw[acL h];cases hf:l.find? fun y=>nm y== s with
  |none=>
   grind
  |some y=>simp
 grind
theorem HE{nm:α->aA}{l:List α}{s:aA}(h1:l.length<=1)(h2:∀x∈l,nm x=s):aJ nm l s=l:=by
 match l,h1 with
 |[],_=>rfl
 |[x],_=>
  grind [aJ]
theorem QT(nm:α->aA)(same:α->α->Bool)(a b c:List α)(s:aA):(pick nm same a b c s).length<=1:=by
 grind [pick,eY]
theorem Lk{nm:α->aA}{same:α->α->Bool}{a b c:List α}{s:aA}{x:α}(h:x∈pick nm same a b c s):nm x=s:=by
 unfold pick at h;split at h
 ·exact (eV nm h).2
 ·exact (eV nm h).2
theorem nO(nm:α->aA)(same:α->α->Bool)(a b c:List α):∀(xs out:List α)(done:List aA),(dS nm same a b c xs out done).2.2=true->(∀y∈out,nm y∈done)->(out.map nm).Nodup->
  ((dS nm same a b c xs out done).1.map nm).Nodup/\∀s,aJ nm (dS nm same a b c xs out done).1 s=if s∈done then aJ nm out s else if s∈xs.map nm then pick nm same a b c s else[]
 | [],out,done,_,hi,hn=>by
  refine⟨hn,fun s=>?_⟩;show aJ nm out s=_;split
  ·rfl
  ·rename_i h;rw[acE AI];exact qV.2 fun hm=>by
    grind
 | x :: xs,out,done,hok,hi,hn=>by
  unfold dS at hok |-;by_cases hc:done.contains (nm x)=true
  ·have hd:=aeo.1 hc;rw[acL hc]at hok |-;obtain⟨h1,h2⟩:=nO nm same a b c xs out done hok hi hn
   grind
  ·have hd:nm x ∉ done:=fun h=>hc (aeo.2 h);rw[acE hc]at hok |-;have step:∀P:List α,P=pick nm same a b c (nm x)->(dS nm same a b c xs (out++P) (done++[nm x])).2.2=true->
     ((dS nm same a b c xs (out++P) (done++[nm x])).1.map nm).Nodup/\∀s,aJ nm (dS nm same a b c xs (out++P) (done++[nm x])).1 s=if s∈done then aJ nm out s else if s∈(x:: xs).map nm then pick nm same a b c s else[]:=by
    intro P hP hk;have hP1:P.length<=1:=by rw[hP];exact QT ..
    have hP2:∀y∈P,nm y=nm x:=fun y hy=>by rw[hP]at hy;exact Lk hy
    have hout:nm x ∉ out.map nm:=fun hm=>by
     grind
    have hnd:((out++P).map nm).Nodup:=by
     rw[adO,aeP];refine⟨hn,?_,?_⟩
     ·match P,hP1 with
      |[],_=>simp
      |[y],_=>simp
     ·grind
    obtain⟨h1,h2⟩:=nO nm same a b c xs (out++P) (done++[nm x]) hk (fun y hy=>by
     grind) hnd
    refine⟨h1,fun s=>?_⟩;rw[h2];by_cases hs:s∈done
    ·have hne:s≠nm x:=fun h=>hd (h▸hs);rw[acL (adB _ hs),acL hs,tk];split
     ·rfl
     ·rename_i h3;rw[qV.2 h3];exact qV.2 fun hm=>by
       grind
    ·rw[acE hs];by_cases hx:s=nm x
     all_goals simp_all[tk,HE]
   by_cases h1:bp same (aJ nm a (nm x)) (aJ nm b (nm x))=true
   ·simp_all[pick]
   ·rw[acE h1]at hok |-;by_cases h2:bp same (aJ nm a (nm x)) (aJ nm c (nm x))=true\/bp same (aJ nm b (nm x)) (aJ nm c (nm x))=true
    all_goals simp_all[pick]
theorem tM{nm:α->aA}{same:α->α->Bool}{a b c:List α}(h:(cb nm same a b c).2.2=true):((cb nm same a b c).1.map nm).Nodup/\∀s,aJ nm (cb nm same a b c).1 s=pick nm same a b c s:=by
 obtain⟨h1,h2⟩:=nO nm same a b c (a++(b++c)) [] [] h (fun y hy=>by cases hy) AI;refine⟨h1,fun s=>?_⟩
 have:=h2 s
 unfold cb;rw[this,acE AI];split
 ·rfl
 ·rename_i hs;simp only[adO,acZ,not_or]at hs
  grind [pick,qV]
theorem tL{nm:α->aA}:∀ {l:List α},(l.map nm).Nodup->∀ {x:α},x∈l->aJ nm l (nm x)=[x]
 | y:: l,hn,x,hx=>by
  simp only[ac3,ad1]at hn;unfold aJ;rw[adS];by_cases h:nm y=nm x
  ·have:y=x:=by
    rcases ac2.1 hx with rfl|hx
    ·rfl
    ·exact absurd (adj.2 ⟨x,hx,h.symm⟩) hn.1
   subst this;simp
  ·have hx':x∈l:=by
    rcases ac2.1 hx with rfl|hx
    ·exact absurd rfl h
    ·exact hx
   have hb:(nm y== nm x)=false:=by rw[acM];exact h
   rw[hb];exact tL hn.2 hx'
theorem Iv(a b:List ca):bp (fun x y=>x.1== y.1&&jF x.2 y.2) a b=true↔a=b:=
 Ef _ (fun x y=>by
  obtain⟨s,t⟩:=x;obtain⟨s',t'⟩:=y;simp only[acB,ada,oI,ado]) a b
end Go.Av.Ap
namespace Go.Av.Ap
open Go Go.Av
def DInv.uniq{p:List Mod}{f:aX}{k:Nat}{D:List (aX×List aX)}(I:DInv p f k D){x:aX}{c d:List aX}(h1:(x,c)∈D)(h2:(x,d)∈D):c=d:=by
 have e1:=yq I.nodup h1;have e2:=yq I.nodup h2;rw[e1]at e2;exact adI e2
def ry(p:List Mod)(f:aX):List aX:=iD ((iJ p f).map (·.1))
def De{p:List Mod}{f x:aX}:x∈ry p f↔x∈(iJ p f).map (·.1):=(gu _).mem_iff
def Eg{p:List Mod}{f:aX}(h:(dq p f).isSome=true):f∈ry p f:=De.2 (adj.2 ⟨_,(u6 h).start,rfl⟩)
def GT{p:List Mod}{f x r:aX}(h:x∈ry p f)(hr:r∈gg p x):r∈ry p f:=De.2 (Dv (De.1 h) r hr)
def sZ(p:List Mod):List aX:=p.flatMap fun m=>m.funcs.map fun f=>(m.name,f.name)
def KB{p:List Mod}{r:aX}(h:(dq p r).isSome=true):r∈sZ p:=by
 unfold dq at h;split at h
 ·rename_i m hm;cases hf:m.funcs.find? fun f=>f.name== r.2 with
  |none=>rw[hf]at h;cases h
  |some g=>
   have h1:=aeB hm;have h2:=aeB hf;refine aeQ.2 ⟨m,adD hm,adj.2 ⟨g,adD hf,?_⟩⟩;simp only[ada]at h1 h2;rw[h1,h2]
 ·cases h
def LY(p:List Mod){n:Nat}(h:∀m∈p,m.funcs.length<=n):(sZ p).length<=p.length*n:=by
 induction p with
 |nil=>simp[sZ]
 |cons m p ih=>
  have h1:=ih (fun m hm=>h m (adA _ hm));have h2:=h m ad8;have:(sZ (m:: p)).length=m.funcs.length+(sZ p).length:=by simp[sZ]
  rw[this,acR,Nat.add_mul];omega
def PY(p:List Mod):(mN p).length<=(sZ p).length:=by
 have:=kJ (l:=(mN p).map (·.1)) (m:=sZ p) (KT p) (fun x hx=>KB ((yz p x).1 hx))
 simpa using this
end Go.Av.Ap
namespace Go.Av.Ap
def Rs.st{α:Type}:Rs α->Ms
 |.ok _ m=>m
 |.er _ m=>m
def Rs.on{α:Type}(f:Ms->Ms):Rs α->Rs α
 |.ok a m=>.ok a (f m)
 |.er e m=>.er e (f m)
def ka{α:Type}(y:X α):X α:=.get fun m=>if m.fuel<=0 then .er 16 else .upd (fun m=>{ m with fuel:=m.fuel-1 }) y
def aaO(n a:Int):X Val:=.get fun m=>.upd (fun m=>{ m with world:=m.world.tail,deeds:=m.deeds++[⟨n,a,m.world.headD 0⟩] }) (.ok (sE (m.world.headD 0)))
structure Closed (p:List Mod) (Q:Int->(α:Type)->X α->Prop):Prop where
 ok:∀(o:Int)(α:Type)(a:α),Q o α (.ok a)
 er:∀(o:Int)(α:Type)(e:Int),e≠0->Q o α (.er e)
 bind:∀(o:Int)(α β:Type)(x:X α)(f:α->X β),Q o α x->(∀a,Q o β (f a))->Q o β (x.bind f)
 tick:∀(o:Int)(α:Type)(y:X α),Q o α y->Q o α (ka y)
 act:∀(o n a:Int),Q o Val (aaO n a)
 set:∀(o:Int)(k:Nat)(v:Val),¬o<0->Q o Val (.upd (fun m=>{ m with state:=setSt m.state o.toNat k v }) (.ok v))
 get:∀(o:Int)(k:Nat),Q o Val (.get fun m=>.ok (yu m.state o.toNat k))
 enter:∀(o a:Int)(r:Ev)(f:Fun)(l:List Val),¬a<0->a.toNat<p.length->f∈(p[a.toNat]?.getD default).funcs->(∀o ns vs e,Q o Val (r o ns vs e))->Q o Val (cS p r a f l)
def mL{p:List Mod}{a:Int}{s:aA}{f:Fun}(h:iA p a s=some f):¬a<0/\a.toNat<p.length/\f∈(p[a.toNat]?.getD default).funcs:=by
 unfold iA at h;by_cases h1:a<0
 ·simp[h1]at h
 ·rw[acE h1]at h;simp only at h;split at h
  ·cases h
  ·have hm:=adl h;refine⟨h1,?_,hm⟩;rcases ac9 a.toNat p.length with k|k
   ·exact k
   ·rw[aeI k]at hm;cases hm
def Y0{Q:Int->(α:Type)->X α->Prop}{o:Int}{α:Type}{c:Prop}[Decidable c](x y:X α)(h1:Q o α x)(h2:Q o α y):Q o α (if c then x else y):=by
 grind
section
variable {p:List Mod} {Q:Int->(α:Type)->X α->Prop} (C:Closed p Q)
include C
theorem Closed.boolX{o:Int}{r:X Val}(h:Q o Val r):Q o Bool (boolX r):=by
 refine C.bind _ _ _ _ _ h fun v=>?_;split
 ·exact C.ok _ _ _
 ·exact C.er _ _ _ Vc
theorem Closed.listX{o:Int}{r:Exp->X Val}(h:∀e,Q o Val (r e)):∀l,Q o (List Val) (listX r l)
 |[]=>C.ok _ _ _
 |e:: l=>C.bind _ _ _ _ _ (h e) fun _=>C.bind _ _ _ _ _ (Closed.listX h l) fun _=>C.ok _ _ _
theorem Closed.step{r:Ev}(h:∀o ns vs e,Q o Val (r o ns vs e))(o:Int)(ns:List aA)(vs:List Val)(e:Exp):Q o Val (nF p r o ns vs e):=by
 unfold nF;refine C.tick _ _ _ ?_;have B:=fun{α β:Type} {x:X α} {f:α->X β}=>C.bind o α β x f;have I:=@Y0 Q o;have er:=fun(α:Type) n (h:n≠0)=>C.er o α n h;have ok:=fun(α:Type) (a:α)=>C.ok o α a;refine I _ _ (er _ _ Vc) (I _ _ (ok _ _) (I _ _ (I _ _ (ok _ _) (er _ _ Vc)) (I _ _ ?_ (I _ _ ?_ (I _ _ ?_ (I _ _ ?_ (I _ _ ?_ (I _ _ ?_ (I _ _ ?_ (I _ _ ?_ (I _ _ ?_ (I _ _ ?_ ?_))))))))))))
 ·grind
 ·refine B (h _ _ _ _) fun a=>B (h _ _ _ _) fun b=>?_;unfold pW
  grind
 ·exact B (C.boolX (h _ _ _ _)) fun a=>I _ _ (ok _ _) (B (C.boolX (h _ _ _ _)) fun b=>ok _ _)
 ·exact B (C.boolX (h _ _ _ _)) fun a=>ok _ _
 ·exact B (C.boolX (h _ _ _ _)) fun a=>I _ _ (h _ _ _ _) (h _ _ _ _)
 ·grind
 ·unfold iX;exact I _ _ (I _ _ (B (C.listX (fun e=>h _ _ _ e) _) fun vs=>I _ _ (ok _ _) (er _ _ Vc)) (er _ _ Vc)) (er _ _ Vc)
 ·grind
 ·unfold pC;simp only;split
  ·grind
  ·rename_i f hf;obtain⟨h1,h2,h3⟩:=mL hf;exact I _ _ (I _ _ (B (C.listX (fun e=>h _ _ _ e) _) fun l=>C.enter _ _ _ _ _ h1 h2 h3 h) (er _ _ Vc)) (er _ _ Vc)
 ·unfold Cq;exact B (h _ _ _ _) fun v=>I _ _ (I _ _ (C.act _ _ _) (er _ _ Vc)) (er _ _ Vc)
 ·unfold wP;split
  ·grind
  ·rename_i ho;exact I _ _ (er _ _ Vc) (I _ _ (B (h _ _ _ _) fun v=>C.set _ _ _ ho) (C.get _ _))
theorem Closed.eval:∀(n:Nat)(o:Int)(ns:List aA)(vs:List Val)(e:Exp),Q o Val (bh p n o ns vs e)
 |0,_,_,_,_=>C.er _ _ _ Vc
 |n+1,o,ns,vs,e=>C.step (fun o ns vs e=>Closed.eval n o ns vs e) o ns vs e
end
def Z9(α:Type)(x:X α):Prop:=∀m e s,x m= .er e s->e≠0
def mD(p:List Mod)(a:Int)(f:Fun)(l:List Val)(m:Ms):Ms:={ m with calls:=if f.pub=true then m.calls++[⟨(p[a.toNat]?.getD default).name,f.name,l⟩]else m.calls,frames:=m.frames+1 }
def jw(d:Int)(m:Ms):Ms:={ m with fuel:=m.fuel+d }
def Aw(α:Type)(x:X α):Prop:=∀m,m.deeds <+: (x m).st.deeds/\m.calls <+: (x m).st.calls
def xf(α:Type)(x:X α):Prop:=Aw α x/\∀m d,0<=d->match x m with
 |.ok a s=>x (jw d m)= .ok a (jw d s)
 |.er e s=>if e=16 then s.deeds <+: (x (jw d m)).st.deeds/\s.calls <+: (x (jw d m)).st.calls else x (jw d m)= .er e (jw d s)
def KS{α β:Type}{x:X α}{f:α->X β}(hx:Aw α x)(hf:∀a,Aw β (f a)):Aw β (x.bind f):=by
 intro m;have h1:=hx m;unfold X.bind;cases hr:x m with
 |er e s=>rw[hr]at h1;exact h1
 |ok a s=>
  rw[hr]at h1;have h2:=hf a s;exact⟨h1.1.trans h2.1,h1.2.trans h2.2⟩
def Bb{α β:Type}{x:X α}{f:α->X β}(hx:xf α x)(hf:∀a,xf β (f a)):xf β (x.bind f):=by
 refine⟨KS hx.1 fun a=>(hf a).1,fun m d hd=>?_⟩;have h1:=hx.2 m d hd;cases hr:x m with
 | er e s=>
  rw[hr]at h1;simp only[X.bind,hr]at h1 |-;by_cases he:e=16
  ·simp only[he,acK]at h1 |-;cases hr2:x (jw d m)with
   |er e2 s2=>rw[hr2]at h1;exact h1
   |ok a2 s2=>
    rw[hr2]at h1;have h2:=(hf a2).1 s2;exact⟨h1.1.trans h2.1,h1.2.trans h2.2⟩
  grind
 |ok a s=>
  rw[hr]at h1;have h2:=(hf a).2 s d hd;simp only[X.bind,hr,h1];exact h2
def mg{α:Type}{x:X α}(hg:Aw α x)(h:∀m d,x (jw d m)=(x m).on (jw d)):xf α x:=by
 refine⟨hg,fun m d hd=>?_⟩;have h1:=h m d;cases hr:x m with
 |ok a s=>rw[hr]at h1;exact h1
 |er e s=>
  rw[hr]at h1;simp only;split
  ·rw[h1];exact⟨adx _,adx _⟩
  ·exact h1
theorem wb(p:List Mod):Closed p fun _=>xf where
 ok:=fun _ _ a=>mg (fun m=>⟨adx _,adx _⟩) fun m d=>rfl
 er:=fun _ _ a _=>mg (fun m=>⟨adx _,adx _⟩) fun m d=>rfl
 bind:=fun _ _ _ x f hx hf=>Bb hx hf
 tick:=fun _ _ y hy=>by
  have hg:Aw _ (ka y):=fun m=>by
   unfold ka X.get;by_cases h:m.fuel<=0
   ·simp only[h,acK];exact⟨adx _,adx _⟩
   ·simp only[h,acI];exact hy.1 { m with fuel:=m.fuel-1 }
  refine⟨hg,fun m d hd=>?_⟩;by_cases h:m.fuel<=0
  ·have e1:ka y m= .er 16 m:=by unfold ka X.get;simp only[h,acK];rfl
   rw[e1];simp only[acK];exact hg (jw d m)
  ·have e1:ka y m=y { m with fuel:=m.fuel-1 }:=by unfold ka X.get;simp only[h,acI];rfl
   have h':¬(m.fuel+d<=0):=WD
   have e2:ka y (jw d m)=y (jw d { m with fuel:=m.fuel-1 }):=by
    have e3:jw d { m with fuel:=m.fuel-1 } = { jw d m with fuel:=(jw d m).fuel-1 }:=by
     simp only[jw,Ms.mk.injEq,aeq];omega
    rw[e3];have h'':¬((jw d m).fuel<=0):=h';unfold ka X.get;simp only[h'',acI];rfl
   rw[e1,e2];exact hy.2 _ d hd
 act:=fun _ n a=>mg (fun m=>⟨⟨_,rfl⟩,adx _⟩) fun m d=>rfl
 set:=fun _ k v _=>mg (fun m=>⟨adx _,adx _⟩) fun m d=>rfl
 get:=fun _ k=>mg (fun m=>⟨adx _,adx _⟩) fun m d=>rfl
 enter:=fun _ a r f l _ _ _ hr=>by
  have hb:xf Val ((r a (f.params.map (·.1)) l f.body).bind fun v=>.upd (fun m=>{ m with frames:=m.frames-1 }) (.ok v)):=
   Bb (hr _ _ _ _) fun v=>mg (fun m=>⟨adx _,adx _⟩) fun m d=>rfl
  have e0:∀m,cS p r a f l m=if m.frames<60 then((r a (f.params.map (·.1)) l f.body).bind fun v=>.upd (fun m=>{ m with frames:=m.frames-1 }) (.ok v)) (mD p a f l m)else .er 6 m:=fun m=>by
   unfold cS X.get;by_cases h:m.frames<60
   ·simp only[h,acK];rfl
   ·simp only[h,acI];rfl
  refine⟨fun m=>?_,fun m d hd=>?_⟩
  ·rw[e0];split
   ·have:=hb.1 (mD p a f l m)
    refine⟨this.1,.trans ?_ this.2⟩;simp only[mD]
    grind
   ·exact⟨adx _,adx _⟩
  ·have e1:=e0 m;have e2:=e0 (jw d m);have e3:(jw d m).frames=m.frames:=rfl;rw[e3]at e2;by_cases h:m.frames<60
   ·rw[acL h]at e1 e2;rw[e1,e2];exact hb.2 (mD p a f l m) d hd
   grind
def Hw(p:List Mod):Closed p fun _=>Z9 where
 ok:=fun _ _ a m e s h=>by cases h
 er:=fun _ _ a h m e s h2=>by cases h2;exact h
 bind:=fun _ _ _ x f hx hf m e s h=>by
  unfold X.bind at h;cases hr:x m with
  |er c t=>rw[hr]at h;cases h;exact hx m _ _ hr
  |ok a t=>rw[hr]at h;exact hf a t e s h
 tick:=fun _ _ y hy m e s h=>by
  unfold ka X.get at h;by_cases hf:m.fuel<=0
  ·simp only[hf,acK]at h;cases h;decide
  ·simp only[hf,acI]at h;exact hy _ e s h
 act:=fun _ n a m e s h=>by cases h
 set:=fun _ k v _ m e s h=>by cases h
 get:=fun _ k m e s h=>by cases h
 enter:=fun _ a r f l _ _ _ hr m e s h=>by
  unfold cS X.get at h;by_cases hf:m.frames<60
  ·simp only[hf,acK,X.upd,X.bind]at h;cases hq:r a (f.params.map (·.1)) l f.body { m with calls:=if f.pub=true then m.calls++[⟨(p[a.toNat]?.getD default).name,f.name,l⟩]else m.calls,frames:=m.frames+1 }with
   |ok b t=>rw[hq]at h;cases h
   |er c t=>rw[hq]at h;cases h;exact hr _ _ _ _ _ _ _ hq
  ·simp only[hf,acI]at h;cases h;decide
theorem EQ{p:List Mod}{n:Nat}{o:Int}{ns:List aA}{vs:List Val}{e:Exp}{m s:Ms}{c:Int}(h:bh p n o ns vs e m= .er c s):c≠0:=(Hw p).eval n o ns vs e m c s h
def Cl(m:Ms):Prop:=(∀l∈m.state,∀v∈l,cI 4 v=true)/\(∀c∈m.calls,∀v∈c.args,cI 4 v=true)
def m7(m:Ms):List Nat:=m.state.map List.length
def RQ{α:Type}(x:X α)(Q:α->Prop):Prop:=∀m,Cl m->Cl (x m).st/\m7 (x m).st=m7 m/\∀a s,x m= .ok a s->Q a
theorem lH{α:Type}{a:α}{Q:α->Prop}(h:Q a):RQ (.ok a) Q:=fun m hm=>⟨hm,rfl,fun b s e=>by cases e;exact h⟩
def jR{α:Type}{e:Int}{Q:α->Prop}:RQ (.er e) Q:=fun m hm=>⟨hm,rfl,fun b s e=>by cases e⟩
theorem fY{α β:Type}{x:X α}{f:α->X β}{Q:α->Prop}{R:β->Prop}(hx:RQ x Q)(hf:∀a,Q a->RQ (f a) R):RQ (x.bind f) R:=by
 intro m hm;obtain⟨h1,h2,h3⟩:=hx m hm;cases hr:x m with
 |er e s=>
  rw[hr]at h1 h2;simp only[X.bind,hr];exact⟨h1,h2,fun b s e=>by cases e⟩
 |ok a s=>
  rw[hr]at h1 h2;obtain⟨g1,g2,g3⟩:=hf a (h3 a s hr) s h1;simp only[X.bind,hr];exact⟨g1,g2.trans h2,g3⟩
def de{α:Type}{c:Prop}[Decidable c]{x y:X α}{Q:α->Prop}(h1:c->RQ x Q)(h2:¬c->RQ y Q):RQ (if c then x else y) Q:=by
 grind
abbrev Rv(v:Val):Prop:=cI 4 v=true
def jy(n:Int):Rv (sE n):=by simp_all[Rv,sE,cI]
theorem jz(b:Bool):Rv (kB b):=by cases b<;>rfl
theorem mP:(l:List Val)->(d:Nat)->(gL l<=d↔∀v∈l,iH v<=d)
 |[],d=>by simp[gL]
 |v:: l,d=>by
  simp only[gL,ac2,forall_eq_or_imp];rw[<- mP l d];omega
def ov(v:Val):iH v=gL v.values+1:=by cases v;rfl
theorem A6:∀(d:Nat)(v:Val),cI (d+1) v=true->iH v<=d->cI d v=true
 |0,v,_,hl=>by rw[ov]at hl;omega
 | d+1,v,h,hl=>by
  rw[ov]at hl;unfold cI at h|-;split at h
  ·grind
  ·rename_i hk;rw[acE hk];simp only[acB,acQ]at h|-;exact⟨h.1,fun x hx=>A6 d x (h.2 x hx) ((mP v.values d).1 WD x hx)⟩
theorem Lr{ns:List aA}{vs:List Val}(hl:ns.length=vs.length)(ha:Mb ns=true)(h8:ns.length<=8)(hv:∀v∈vs,Rv v)(h4:iH (.mk 2 0 ns vs)<=4):Rv (.mk 2 0 ns vs):=by
 have h3:gL vs<=3:=by
  rw[ov]at h4;have:(Val.mk 2 0 ns vs).values=vs:=rfl;rw[this]at h4;omega
 have h5:=(mP vs 3).1 h3;unfold Rv cI;simp_all[A6]
theorem Jh:∀(d:Nat)(v:Val),cI d v=true->cI (d+1) v=true
 |0,v,h=>by simp[cI]at h
 | d+1,v,h=>by
  unfold cI at h|-;split at h
  ·grind
  ·rename_i hk;rw[acE hk];simp only[acB,acQ]at h|-;exact⟨h.1,fun x hx=>Jh d x (h.2 x hx)⟩
def F8{v x:Val}(h:Rv v)(hx:x∈v.values):Rv x:=by
 unfold Rv cI at h;split at h
 ·grind
 ·simp only[acB,acQ]at h;exact Jh 3 x (h.2 x hx)
def Ir{v:Val}(h:Rv v):v.names.length=v.values.length:=by
 unfold Rv cI at h
 grind
theorem FE:∀(ns:List aA)(vs:List Val)(s:aA)(v:Val),nz ns vs s=some v->v∈vs
 | n:: ns,w:: vs,s,v,h=>by
  unfold nz at h;split at h
  ·rename_i x hx;cases h;exact adA _ (FE ns vs s v hx)
  grind
 |[],_,_,_,h=>by simp[nz]at h
 |_:: _,[],_,_,h=>by simp[nz]at h
theorem xU:∀(ns:List aA)(vs:List Val)(s:aA)(v:Val),mJ ns vs s=some v->v∈vs
 |n:: ns,w:: vs,s,v,h=>by
  unfold mJ at h;split at h
  ·grind
  ·exact adA _ (xU ns vs s v h)
 |[],_,_,_,h=>by simp[mJ]at h
 |_:: _,[],_,_,h=>by simp[mJ]at h
def pO(ns:List aA)(vs:List Val):Prop:=ns.length=vs.length/\∀v∈vs,Rv v
theorem xa{r:X Val}(h:RQ r Rv):RQ (boolX r) fun _=>True:=fY h fun _ _=>de (fun _=>lH trivial) (fun _=>jR)
theorem Dw{r:Exp->X Val}(h:∀e,RQ (r e) Rv):∀l,RQ (listX r l) fun vs=>vs.length=l.length/\∀v∈vs,Rv v
 |[]=>lH ⟨rfl,fun v hv=>by cases hv⟩
 |e:: l=>fY (h e) fun v hv=>fY (Dw h l) fun vs hvs=>lH ⟨by simp[hvs.1],fun w hw=>by
  grind⟩
def E6{st:List (List Val)}(h:∀l∈st,∀v∈l,Rv v)(i k:Nat)(hd:Rv default):Rv (yu st i k):=by
 unfold yu;rw[adH,adH];cases h1:st[i]? with
 |none=>simpa using hd
 |some l=>
  simp only[aeJ];cases h2:l[k]? with
  |none=>simpa using hd
  |some v=>exact h l (adl h1) v (adl h2)
def Gb{p:List Mod}{r:Ev}{a:Int}{f:Fun}{l:List Val}(hr:∀o ns vs e,pO ns vs->RQ (r o ns vs e) Rv)(hl:l.length=f.params.length)(hv:∀v∈l,Rv v):RQ (cS p r a f l) Rv:=by
 have e0:∀m,cS p r a f l m=if m.frames<60 then((r a (f.params.map (·.1)) l f.body).bind fun v=>.upd (fun m=>{ m with frames:=m.frames-1 }) (.ok v)) (mD p a f l m)else .er 6 m:=fun m=>by
  unfold cS X.get;by_cases h:m.frames<60
  ·simp only[h,acK];rfl
  ·simp only[h,acI];rfl
 intro m hm;rw[e0];split
 ·have hb:RQ ((r a (f.params.map (·.1)) l f.body).bind fun v=>.upd (fun m=>{ m with frames:=m.frames-1 }) (.ok v)) Rv:=
   fY (hr _ _ _ _ ⟨by simp[hl],hv⟩) fun _ hv m hm=>⟨hm,rfl,fun a s e=>by cases e;exact hv⟩
  have hm':Cl (mD p a f l m):=by
   refine⟨hm.1,fun c hc=>?_⟩;simp only[mD]at hc;split at hc
   ·rcases acZ.1 hc with h|h
    ·exact hm.2 c h
    grind
   ·exact hm.2 c hc
  exact hb _ hm'
 ·exact⟨hm,rfl,fun _ _ e=>by cases e⟩
def right_step{p:List Mod}{r:Ev}(hr:∀o ns vs e,pO ns vs->RQ (r o ns vs e) Rv)(o:Int)(ns:List aA)(vs:List Val)(e:Exp)(hs:pO ns vs):RQ (nF p r o ns vs e) Rv:=by
 have tick:∀y:X Val,RQ y Rv->RQ (ka y) Rv:=fun y hy m hm=>by
  unfold ka X.get;by_cases h:m.fuel<=0
  ·simp only[h,acK];exact⟨hm,rfl,fun _ _ e=>by cases e⟩
  ·simp only[h,acI];exact hy { m with fuel:=m.fuel-1 } hm
 have H:=fun e=>hr o ns vs e hs;refine tick _ ?_;refine de (fun _=>jR) fun _=>de (fun _=>lH (jy _)) fun _=>de (fun _=>de (fun _=>lH (jz _)) fun _=>jR) fun _=>de (fun _=>?_) fun _=>
  de (fun _=>?_) fun _=>de (fun _=>?_) fun _=>de (fun _=>?_) fun _=>de (fun _=>?_) fun _=>de (fun _=>?_) fun _=>de (fun _=>?_) fun _=>de (fun _=>?_) fun _=>
  de (fun _=>?_) fun _=>de (fun _=>?_) fun _=>?_
 ·split
  ·rename_i v hv;exact lH (hs.2 v (FE _ _ _ _ hv))
  ·exact jR
 ·refine fY (H _) fun a ha=>fY (H _) fun b hb=>?_;unfold pW;exact de (fun _=>de (fun _=>lH (jz _)) fun _=>jR) fun _=>de (fun _=>de (fun _=>lH (jy _)) fun _=>de (fun _=>lH (jy _)) fun _=>de (fun _=>lH (jy _)) fun _=>lH (jz _)) fun _=>jR
 ·exact fY (xa (H _)) fun a _=>de (fun _=>lH (jz _)) fun _=>fY (xa (H _)) fun b _=>lH (jz _)
 ·grind [fY,xa,lH,jz]
 ·exact fY (xa (H _)) fun a _=>de (fun _=>H _) fun _=>H _
 ·exact fY (H _) fun v hv=>hr _ _ _ _ ⟨by simp[hs.1],fun w hw=>by
   rcases acZ.1 hw with h|h
   ·exact hs.2 w h
   grind⟩
 ·unfold iX;exact de (fun h1=>de (fun h2=>fY (Dw H _) fun vs hvs=>de (fun h3=>lH (Lr qr h1.2 h2 hvs.2 h3)) fun _=>jR) fun _=>jR) fun _=>jR
 ·refine fY (H _) fun v hv=>?_;split
  ·rename_i x hx;exact de (fun _=>lH (F8 hv (xU _ _ _ _ hx))) fun _=>jR
  ·exact jR
 ·unfold pC;simp only;split
  ·exact jR
  ·rename_i f hf;exact de (fun _=>de (fun h2=>fY (Dw H _) fun l hl=>Gb hr (by rw[hl.1,h2]) hl.2) fun _=>jR) fun _=>jR
 ·unfold Cq;exact fY (H _) fun v hv=>de (fun _=>de (fun _ m hm=>⟨hm,rfl,fun a s e=>by cases e;exact jy _⟩) fun _=>jR) fun _=>jR
 ·unfold wP;refine de (fun _=>jR) fun ho=>?_;simp only;refine de (fun _=>jR) fun hi=>de (fun _=>fY (H _) fun v hv m hm=>⟨⟨?_,hm.2⟩,?_,fun a s e=>by cases e;exact hv⟩) fun _ m hm=>⟨hm,rfl,fun a s e=>by cases e;exact E6 hm.1 _ _ (jy 0)⟩
  ·intro l hl w hw;simp only[X.upd,X.ok,Rs.st,setSt]at hl;obtain⟨j,hj⟩:=aeW.1 hl;rw[List.getElem?_modify]at hj;cases h1:m.state[j]? with
   |none=>simp[h1]at hj
   |some l0=>
    rw[h1]at hj;simp only[Option.map_eq_map,adv,acz]at hj;have hold:=hm.1 l0 (adl h1)
    grind
  ·simp only[X.upd,X.ok,Rs.st,m7,setSt];apply adZ
   grind
theorem pn{p:List Mod}:∀(n:Nat)(o:Int)(ns:List aA)(vs:List Val)(e:Exp),pO ns vs->RQ (bh p n o ns vs e) Rv
 |0,_,_,_,_,_=>jR
 |n+1,o,ns,vs,e,hs=>right_step (fun o ns vs e h=>pn n o ns vs e h) o ns vs e hs
def qM(p:List Mod):Bool:=(List.range p.length).any fun i=>(p.take i).any fun m=>m.name== (p[i]?.getD default).name
def fP(p:List Mod):Int:=if 20<p.length then 6 else if qM p=true then 5 else 0
def bv(world:List Int)(fuel:Int)(st:List (List Val)):Ms:=⟨fuel,0,world,[],[],st⟩
def CU(e:Exp)(ns:List aA)(vs:List Val):Rs Val:=
 if ns.length=vs.length/\vs.all (cI 4)=true then bh [] 100000 (-1) ns vs e (bv [] 100000 [])else .er 1 (bv [] 100000 [])
def rE:List Exp->Except Int (List Val)
 |[]=>.ok []
 | e:: es=>match CU e [] []with
  |.er c _=>.error c
  |.ok v _=>match rE es with
   |.error c=>.error c
   |.ok vs=>.ok (v:: vs)
def iG:List Mod->Except Int (List Vars)
 |[]=>.ok []
 | m:: ms=>if m.init.length=m.vars.length then(match rE m.init with
   |.error c=>.error c
   |.ok vs=>match iG ms with
    |.error c=>.error c
    |.ok r=>.ok (⟨m.name,vs⟩:: r))
  else .error 13
def lr(p:List Mod):Except Int (List Vars):=if fP p=0 then iG p else .error (fP p)
def dR(p:List Mod)(st:List Vars):Bool:=bp (fun(m:Mod) (v:Vars)=>v.module== m.name&&(v.values.length== m.vars.length&&v.values.all (cI 4))) p st
def xP(e:Int):Out:=⟨e,default,[],[],[]⟩
def wk(ns:List aA):Rs Val->Out
 |.ok v m=>⟨0,v,m.deeds,m.calls,List.zipWith Vars.mk ns m.state⟩
 |.er e m=>⟨e,default,m.deeds,m.calls,List.zipWith Vars.mk ns m.state⟩
def gY(p:List Mod)(st:List Vars)(module fn:aA)(args:List Val)(world:List Int)(fuel:Int):Out:=
 if fP p≠0 then xP (fP p)
 else if fuel<0\/100000<fuel\/dR p st=false then xP 1
 else match iA p (eM p module) fn with
  |none=>xP 4
  | some f=>if args.length=f.params.length/\args.all (cI 4)=true then
    wk (st.map (·.module)) (cS p (bh p 100000) (eM p module) f args (bv world fuel (st.map (·.values))))
   else xP 13
def eI(p:List Mod)(module fn:aA)(args:List Val)(world:List Int)(fuel:Int):Out:=
 match lr p with
 |.error e=>xP e
 |.ok st=>gY p st module fn args world fuel
theorem AD{α β:Type}{F:α->β->Bool}:{a:List α} ->{b:List β} ->bp F a b=true->a.length=b.length/\∀(i:Nat)(x:α)(y:β),a[i]? = some x->b[i]? = some y->F x y=true
 |[],[],_=>⟨rfl,fun i x y h=>by simp at h⟩
 |[],_:: _,h=>by simp[bp]at h
 |_:: _,[],h=>by simp[bp]at h
 |x:: a,y:: b,h=>by
  simp only[bp,acB]at h;obtain⟨h1,h2⟩:=AD h.2
  grind
def K6(p:List Mod):fP p≠16:=by
 grind [fP]
def r8(p:List Mod)(st:List Vars)(module fn:aA)(args:List Val):
  (∃e,(e≠16/\e≠0)/\∀(world:List Int)(fuel:Int),0<=fuel->fuel<=100000->gY p st module fn args world fuel=xP e)\/
  (∃(a:Int)(f:Fun),f∈(p[a.toNat]?.getD default).funcs/\¬a<0/\a.toNat<p.length/\args.length=f.params.length/\(∀v∈args,Rv v)/\dR p st=true/\
   ∀(world:List Int)(fuel:Int),0<=fuel->fuel<=100000->gY p st module fn args world fuel=wk (st.map (·.module)) (cS p (bh p 100000) a f args (bv world fuel (st.map (·.values))))):=by
 by_cases hn:fP p=0
 ·by_cases hb:dR p st=true
  ·cases hf:iA p (eM p module) fn with
   |none=>
    left;refine⟨4,⟨Vc,Vc⟩,fun w fu g0 g1=>?_⟩;simp_all[gY,acE]
   | some f=>
    obtain⟨f1,f2,f3⟩:=mL hf;by_cases ha:args.length=f.params.length/\args.all (cI 4)=true
    ·right;refine⟨eM p module,f,f3,f1,f2,ha.1,fun v hv=>(acQ.1 ha.2) v hv,hb,fun w fu g0 g1=>?_⟩;simp_all[gY,acE]
    ·left;refine⟨13,⟨Vc,Vc⟩,fun w fu g0 g1=>?_⟩;simp_all[gY,acE]
  ·left;refine⟨1,⟨Vc,Vc⟩,fun w fu g0 g1=>?_⟩;simp_all[gY]
 ·left;refine⟨fP p,⟨K6 p,hn⟩,fun w fu _ _=>?_⟩;unfold gY;rw[acL hn]
def Hq{p:List Mod}{a:Int}{f:Fun}{l:List Val}{n:Nat}:¬a<0->a.toNat<p.length->f∈(p[a.toNat]?.getD default).funcs->xf Val (cS p (bh p n) a f l):=fun h1 h2 h3=>
 (wb p).enter 0 a _ f l h1 h2 h3 fun o ns vs e=>(wb p).eval n o ns vs e
def vJ{p:List Mod}{a:Int}{f:Fun}{l:List Val}{n:Nat}(hl:l.length=f.params.length)(hv:∀v∈l,Rv v):RQ (cS p (bh p n) a f l) Rv:=Gb (fun o ns vs e h=>pn n o ns vs e h) hl hv
def qD(ns:List aA)(r:Rs Val):(wk ns r).deeds=r.st.deeds:=by cases r<;>rfl
def kU(ns:List aA)(r:Rs Val):(wk ns r).calls=r.st.calls:=by cases r<;>rfl
def qE(ns:List aA)(r:Rs Val):(wk ns r).state=List.zipWith Vars.mk ns r.st.state:=by cases r<;>rfl
theorem KL(p:List Mod)(st:List Vars)(module fn:aA)(args:List Val)(world:List Int)(fuel d:Int)(h0:0<=fuel)(hd:0<=d)(h1:fuel+d<=100000):
  if(gY p st module fn args world fuel).err=16 then(gY p st module fn args world fuel).deeds <+: (gY p st module fn args world (fuel+d)).deeds/\(gY p st module fn args world fuel).calls <+: (gY p st module fn args world (fuel+d)).calls
  else gY p st module fn args world (fuel+d)=gY p st module fn args world fuel:=by
 rcases r8 p st module fn args with⟨e,he,h⟩|⟨a,f,hf,ha,hl,hargs,hv,hb,h⟩
 ·grind
 ·rw[h world fuel h0 WD,h world (fuel+d) WD h1];have q:=(Hq (n:=100000) (l:=args) ha hl hf).2 (bv world fuel (st.map (·.values))) d hd;have e1:bv world (fuel+d) (st.map (·.values))=jw d (bv world fuel (st.map (·.values))):=rfl;rw[e1];cases hr:cS p (bh p 100000) a f args (bv world fuel (st.map (·.values)))with
  |ok v s=>
   rw[hr]at q;simp only at q;rw[q];rfl
  | er e s=>
   rw[hr]at q;simp only at q;have e2:(wk (st.map (·.module)) (.er e s)).err=e:=rfl;rw[e2];by_cases he:e=16
   ·rw[acL he]at q |-;rw[qD,kU,qD,kU];exact q
   ·rw[acE he]at q |-;rw[q];rfl
def Cm(o:Out):Prop:=Rv o.value/\(∀c∈o.calls,∀v∈c.args,Rv v)/\∀x∈o.state,∀v∈x.values,Rv v
theorem pm(e:Int):Cm (xP e):=⟨jy 0,fun c hc=>by simp[xP]at hc,fun c hc=>by simp[xP]at hc⟩
def kF{p:List Mod}{st:List Vars}(h:dR p st=true):st.length=p.length/\(∀x∈st,∀v∈x.values,Rv v)/\∀(i:Nat)(m:Mod)(x:Vars),p[i]? = some m->st[i]? = some x->x.module=m.name/\x.values.length=m.vars.length:=by
 obtain⟨h1,h2⟩:=AD h;refine⟨h1.symm,fun x hx v hv=>?_,fun i m x hm hx=>?_⟩
 ·obtain⟨i,hi⟩:=aeW.1 hx;have hlt:i<st.length:=(acJ.1 hi).1
  have:=h2 i (p[i]'(WD)) x (acH _) hi
  grind
 grind
def rM{ns:List aA}{st:List (List Val)}{x:Vars}(h:x∈List.zipWith Vars.mk ns st):x.values∈st:=by
 obtain⟨i,hi⟩:=aeW.1 h
 grind
theorem HI(p:List Mod)(st:List Vars)(module fn:aA)(args:List Val)(world:List Int)(fuel:Int):Cm (gY p st module fn args world fuel):=by
 by_cases h0:0<=fuel/\fuel<=100000
 ·rcases r8 p st module fn args with⟨e,he,h⟩|⟨a,f,hf,ha,hl,hargs,hv,hb,h⟩
  ·grind [pm]
  ·rw[h world fuel h0.1 h0.2];obtain⟨_,b2,_⟩:=kF hb;obtain⟨q1,_,q3⟩:=vJ (p:=p) (a:=a) (n:=100000) hargs hv (bv world fuel (st.map (·.values))) ⟨fun l hl v hv=>by
    simp only[bv,adj]at hl
    grind,fun c hc=>by simp[bv]at hc⟩
   refine⟨?_,by rw[kU];exact q1.2,fun x hx v hv=>?_⟩
   ·cases hr:cS p (bh p 100000) a f args (bv world fuel (st.map (·.values)))with
    |ok v s=>exact q3 v s hr
    |er e s=>exact jy 0
   ·rw[qE]at hx;exact q1.1 _ (rM hx) v hv
 ·unfold gY;split
  ·exact pm _
  ·rw[acL WD];exact pm _
def Lt(p:List Mod)(module fn:aA)(args:List Val)(world:List Int)(fuel:Int):Cm (eI p module fn args world fuel):=by
 grind [eI,pm,HI]
def Ol(p:List Mod)(module fn:aA)(args:List Val)(world:List Int)(fuel d:Int)(h0:0<=fuel)(hd:0<=d)(h1:fuel+d<=100000):
  if(eI p module fn args world fuel).err=16 then(eI p module fn args world fuel).deeds <+: (eI p module fn args world (fuel+d)).deeds/\(eI p module fn args world fuel).calls <+: (eI p module fn args world (fuel+d)).calls
  else eI p module fn args world (fuel+d)=eI p module fn args world fuel:=by
 grind [eI,KL]
theorem qq:(l:List Exp)->(vs:List Val)->rE l= .ok vs->vs.length=l.length/\∀v∈vs,Rv v
 |[],vs,h=>by cases h;grind
 | e :: es,vs,h=>by
  unfold rE at h;split at h
  ·cases h
  ·rename_i v s hv;split at h
   ·cases h
   ·rename_i ws hws;cases h;obtain⟨h1,h2⟩:=qq es ws hws;refine⟨by simp[h1],fun w hw=>?_⟩;rcases ac2.1 hw with rfl|hw
    ·unfold CU at hv;rw[acL AI]at hv;exact (pn 100000 (-1) [] [] e ⟨rfl,fun v hv=>by cases hv⟩ (bv [] 100000 []) ⟨fun l hl=>by simp[bv]at hl,fun l hl=>by simp[bv]at hl⟩).2.2 _ _ hv
    grind
theorem qm:(p:List Mod)->(st:List Vars)->iG p= .ok st->dR p st=true
 |[],st,h=>by cases h;rfl
 | m :: ms,st,h=>by
  unfold iG at h;split at h
  ·rename_i hl;split at h
   ·cases h
   ·rename_i vs hvs;split at h
    ·cases h
    ·rename_i r hr;cases h;obtain⟨h1,h2⟩:=qq _ _ hvs
     have:=qm ms r hr
     simp_all[dR,bp]
  ·cases h
def yk{p:List Mod}{st:List Vars}(h:lr p= .ok st):dR p st=true:=by
 grind [lr,qm]
theorem Bh:(l:List Exp)->(c:Int)->rE l= .error c->c≠0
 |[],c,h=>by cases h
 | e:: es,c,h=>by
  unfold rE at h;split at h
  ·grind [CU,EQ]
  ·split at h
   ·rename_i c' hc;cases h;exact Bh es _ hc
   ·cases h
theorem yj:(p:List Mod)->(c:Int)->iG p= .error c->c≠0
 |[],c,h=>by cases h
 | m :: ms,c,h=>by
  unfold iG at h;split at h
  ·split at h
   ·grind [Bh]
   ·split at h
    ·rename_i c' hc;cases h;exact yj ms _ hc
    ·cases h
  grind
def HH{p:List Mod}{c:Int}(h:lr p= .error c):c≠0:=by
 grind [lr,yj]
end Go.Av.Ap
namespace Go.Av.Ap
open Go Go.Av
theorem yy{α:Type}{F:α->Bool}:∀(l:List α)(i:Int),0<=i->(l.find? F=none/\aL F l i<0)\/∃(k:Nat)(h:k<l.length),aL F l i=i+k/\l.find? F=some l[k]
 |[],i,hi=>.inl ⟨rfl,by simp[aL]⟩
 | x:: l,i,hi=>by
  by_cases hx:F x=true
  ·exact .inr ⟨0,AI,by simp[aL,hx],by simp[adS,hx]⟩
  ·have hx':F x=false:=by simpa using hx
   rcases yy l (i+1) (WD)with⟨h1,h2⟩|⟨k,hk,h1,h2⟩
   ·exact .inl ⟨by rw[List.find?_cons_of_neg (by simp[hx']),h1],by simp[aL,hx'];exact h2⟩
   ·exact .inr ⟨k+1,by simpa using hk,by simp[aL,hx'];omega,by simp[adS,hx',h2]⟩
def mK(p:List Mod)(M s:aA):iA p (eM p M) s=dq p (M,s):=by
 unfold iA dq eM;rcases yy (F:=fun m:Mod=>m.name== M) p 0 (WD)with⟨h1,h2⟩|⟨k,hk,h1,h2⟩
 ·simp only[h1,acL h2]
 ·have h3:¬(0+(k:Int))<0:=WD
  have h4:(0+(k:Int)).toNat=k:=WD
  simp only[h1,h2,acE h3,h4];have h5:(p[k]?.getD default).funcs=p[k].funcs:=by rw[acH hk];rfl
  rw[h5];unfold rD;rcases yy (F:=fun f:Fun=>f.name== s) p[k].funcs 0 (WD)with⟨g1,g2⟩|⟨j,hj,g1,g2⟩
  ·simp only[g1,acL g2]
  ·have g3:¬(0+(j:Int))<0:=WD
   have g4:(0+(j:Int)).toNat=j:=WD
   simp only[g1,g2,acE g3,g4,acH hj]
section
variable (R:aX->Prop) (E:Int->Prop)
variable {R E}
end
structure Alike (p q:List Mod):Prop where
 mod:∀s,eM p s=eM q s
 name:∀i:Nat,(p[i]?.getD default).name=(q[i]?.getD default).name
 vars:∀i:Nat,(p[i]?.getD default).vars=(q[i]?.getD default).vars
section
variable {p q:List Mod} {G:Int->Fun->Prop}
def jb(p:List Mod)(own:Int)(x:Exp):Int:=if x.m=[]then own else eM p x.m
def WE(p q:List Mod)(G:Int->Fun->Prop)(own:Int)(x:Exp):Prop:=x.op=15->iA p (jb p own x) x.s=iA q (jb p own x) x.s/\∀f,iA p (jb p own x) x.s=some f->(x.m=[]\/f.pub=true)->G (jb p own x) f
def sV(p q:List Mod)(G:Int->Fun->Prop)(own:Int)(e:Exp):Prop:=∀x∈je e,WE p q G own x
theorem E8{own:Int}{e:Exp}(h:sV p q G own e){x:Exp}(hx:x∈e.args):sV p q G own x:=fun y hy=>h y (by
 rw[re,ac2,aeQ];exact .inr ⟨x,hx,hy⟩)
theorem Nb{own:Int}{e:Exp}(h:sV p q G own e)(i:Nat):sV p q G own e.args[i]!:=by
 by_cases hi:i<e.args.length
 ·rw[acF e.args i hi];exact E8 h (List.getElem_mem hi)
 ·rw[getElem!_neg e.args i hi];intro x hx h15;have hd:je (default:Exp)=[default]:=rfl;rw[hd,adk]at hx;subst hx;cases h15
theorem Bt{r s:Exp->X Val}:∀l:List Exp,(∀e∈l,r e=s e)->listX r l=listX s l
 |[],_=>rfl
 |e:: l,h=>by
  simp only[listX,h e AI,Bt l fun x hx=>h x (by simp[hx])]
theorem A0(A:Alike p q)(hG:∀a f,G a f->sV p q G a f.body):∀(n:Nat)(own:Int)(ns:List aA)(vs:List Val)(e:Exp),sV p q G own e->bh p n own ns vs e=bh q n own ns vs e
 |0,_,_,_,_,_=>rfl
 | n + 1,own,ns,vs,e,h=>by
  have H:=A0 A hG n;have hi:∀ns vs i,bh p n own ns vs e.args[i]! = bh q n own ns vs e.args[i]!:=fun ns vs i=>H own ns vs _ (Nb h i);have hl:listX (bh p n own ns vs) e.args=listX (bh q n own ns vs) e.args:=Bt _ fun x hx=>H own ns vs x (E8 h hx);have hr:iX (bh p n own ns vs) e=iX (bh q n own ns vs) e:=by simp only[iX,hl]
  have hv:wP p (bh p n own ns vs) own e=wP q (bh q n own ns vs) own e:=by simp only[wP,hi,A.vars]
  have hc:e.op=15->pC p (bh p n) own ns vs e=pC q (bh q n) own ns vs e:=fun h15=>by
   obtain⟨h1,h2⟩:=h e (by rw[re];simp) h15;have ea:(if e.m=[]then own else eM q e.m)=jb p own e:=by unfold jb;rw[A.mod]
   have eb:(if e.m=[]then own else eM p e.m)=jb p own e:=rfl;simp only[pC,ea,eb,<- h1];cases hf:iA p (jb p own e) e.s with
   |none=>rfl
   | some f=>
    have hen:(e.m=[]\/f.pub=true)->∀l,cS p (bh p n) (jb p own e) f l=cS q (bh q n) (jb p own e) f l:=fun hp l=>by
     simp only[cS,A.name,H (jb p own e) _ l f.body (hG _ _ (h2 f hf hp))]
    by_cases hp:e.m=[]\/f.pub=true
    ·simp only[acL hp,hl,hen hp]
    ·simp only[acE hp]
  show nF p (bh p n) own ns vs e=nF q (bh q n) own ns vs e;unfold nF;simp only[hi,hr,hv];by_cases h15:e.op=15
  ·simp only[hc h15]
  ·simp only[h15,acI]
theorem Hr(A:Alike p q)(hG:∀a f,G a f->sV p q G a f.body){a:Int}{f:Fun}(h:G a f)(n:Nat)(l:List Val):cS p (bh p n) a f l=cS q (bh q n) a f l:=by
 simp only[cS,A.name,A0 A hG n a _ l f.body (hG a f h)]
end
section
variable {B:List Mod} {m o:Mod}
theorem Jo{α:Type}(F:α->Bool){x y:α}(h:F x=F y):∀(l:List α)(i:Int),aL F (l++[x]) i=aL F (l++[y]) i
 |[],i=>by simp only[acT,aL,h]
 |z:: l,i=>by simp only[ac1,aL,Jo F h l]
theorem CX{β:Type}(g:Mod->β)(h:g m=g o)(i:Nat):g ((B++[m])[i]?.getD default)=g ((B++[o])[i]?.getD default):=by
 by_cases h1:i<B.length
 ·rw[ac6 h1,ac6 h1]
 ·rw[adh WD,adh WD];cases i-B.length with
  |zero=>exact h
  |succ k=>rfl
theorem AB(hn:m.name=o.name)(hv:m.vars=o.vars):Alike (B++[m]) (B++[o]) where
 mod:=fun s=>Jo _ (by rw[hn]) B 0
 name:=CX _ hn
 vars:=CX _ hv
theorem Ba(hn:m.name=o.name)(hv:m.vars=o.vars)(hi:m.init=o.init):∀B:List Mod,iG (B++[m])=iG (B++[o])
 |[]=>by simp only[acT,iG,hn,hv,hi]
 |b:: B=>by simp only[ac1,iG,Ba hn hv hi B]
theorem vE(hn:m.name=o.name)(hv:m.vars=o.vars):∀(B:List Mod)(st:List Vars),dR (B++[m]) st=dR (B++[o]) st
 |[],[]=>rfl
 |[],[_]=>by simp only[acT,dR,bp,hn,hv]
 |[],_:: _:: _=>by simp only[acT,dR,bp,hn,hv]
 |_:: _,[]=>rfl
 |b:: B,v:: st=>by
  have:=vE hn hv B st
  simp only[dR]at this;simp only[ac1,dR,bp,this]
theorem LF(hn:m.name=o.name):qM (B++[m])=qM (B++[o]):=by
 have e:∀(l:List Mod)(s:aA),l.any (fun m=>m.name== s)=(l.map Mod.name).any (· == s):=fun l s=>by rw[List.any_map];rfl
 have t:∀i,((B++[m]).take i).map Mod.name=((B++[o]).take i).map Mod.name:=fun i=>by
  rw[aex,aex,adO,adO];simp[hn]
 unfold qM;simp only[e,t,CX Mod.name hn,ac7,acR,acS]
theorem BG(hn:m.name=o.name):fP (B++[m])=fP (B++[o]):=by
 unfold fP;rw[LF hn];simp only[ac7,acR,acS]
theorem Q3(hn:m.name=o.name)(hv:m.vars=o.vars)(hi:m.init=o.init){G:Int->Fun->Prop}(hG:∀a f,G a f->sV (B++[m]) (B++[o]) G a f.body)(M s:aA)(hs:iA (B++[m]) (eM (B++[m]) M) s=iA (B++[o]) (eM (B++[m]) M) s)(hg:∀f,iA (B++[m]) (eM (B++[m]) M) s=some f->G (eM (B++[m]) M) f)(args:List Val)(world:List Int)(fuel:Int):
  eI (B++[m]) M s args world fuel=eI (B++[o]) M s args world fuel:=by
 have A:=AB (B:=B) hn hv;unfold eI lr;rw[BG hn,Ba hn hv hi];split
 ·rfl
 ·rename_i st _;unfold gY;rw[BG hn,vE hn hv,<- A.mod,<- hs];cases hf:iA (B++[m]) (eM (B++[m]) M) s with
  |none=>rfl
  |some f=>simp only[Hr A hG (hg f hf)]
end
def Gp{e:Exp}(h:pt e=true):(e.op=0/\e.args.length=0)\/(e.op=1/\e.args.length=0/\(e.n=0\/e.n=1))\/(e.op=2/\e.args.length=0)\/((e.op=3\/e.op=4\/e.op=5\/e.op=6\/e.op=7)/\e.args.length=2)\/((e.op=8\/e.op=9)/\e.args.length=2)\/(e.op=10/\e.args.length=1)\/(e.op=11/\e.args.length=3)\/(e.op=12/\e.args.length=2)\/(e.op=13/\e.names.length=e.args.length/\Dh e.names=true)\/(e.op=14/\e.args.length=1)\/e.op=15\/(e.op=16/\e.args.length=1/\(e.n=1\/e.n=2\/e.n=4\/e.n=8))\/(e.op=17/\e.args.length=0)\/(e.op=18/\e.args.length=1):=by
 have hb:0<=e.op/\e.op<19:=by
  unfold pt at h;simp only[acB,acP]at h;exact⟨h.1.1.1.1.1.1.1,h.1.1.1.1.1.1.2⟩
 have ho:e.op=0\/e.op=1\/e.op=2\/e.op=3\/e.op=4\/e.op=5\/e.op=6\/e.op=7\/e.op=8\/e.op=9\/e.op=10\/e.op=11\/e.op=12\/e.op=13\/e.op=14\/e.op=15\/e.op=16\/e.op=17\/e.op=18:=WD
 rcases ho with o|o|o|o|o|o|o|o|o|o|o|o|o|o|o|o|o|o|o<;>simp[pt,jc,ju,o,-List.length_eq_zero_iff]at h|- <;> first|omega|grind
mutual
def abr:Ty->Val->Prop
 |.mk k fs,v=>v.kind=k/\(fs≠[]->k=2)/\RU fs v
def RU:List (aA×Ty)->Val->Prop
 |[],_=>True
 |f:: fs,v=>abq f v/\RU fs v
def abq:aA×Ty->Val->Prop
 |(n,t),v=>∃x,mJ v.names v.values n=some x/\abr t x
end
def bind_ok{α β:Type}{x:ie α}{f:α->ie β}{n:Int}{b:β}{n':Int}(h:ie.bind x f n= .ok b n'):∃a m,x n= .ok a m/\f a m= .ok b n':=by
 unfold ie.bind at h;split at h
 ·rename_i a m hm;exact⟨a,m,hm,h⟩
 ·cases h
theorem Qa{α:Type}:{l:List α} ->l.length=1->∃a,l=[a]
 |[a],_=>⟨a,rfl⟩
theorem Qb{α:Type}:{l:List α} ->l.length=2->∃a b,l=[a,b]
 |[a,b],_=>⟨a,b,rfl⟩
def J4(B:List Mod)(m:Mod):Prop:=∃F,(fK m F).2=0/\∀f∈F,∃b∈B,b.name=f.module
theorem EH:∀(fs acc:List Face),∀f∈eP acc fs,f∈acc\/f∈fs
 |[],acc,f,h=>.inl h
 | g:: fs,acc,f,h=>by
  rcases EH fs _ f h with h|h
  ·split at h
   ·exact .inl h
   ·rcases acZ.1 h with h|h
    ·exact .inl h
    ·exact .inr (ac2.2 (.inl (adk.1 h)))
  ·exact .inr (adA _ h)
def KI{c:Tcx}{f:Fun}(h:KH c f=0):∃t n,cz c 12 f.params f.body 0= .ok t n:=by
 unfold KH at h;cases hx:cz c 12 f.params f.body 0 with
 |ok t n=>exact⟨t,n,rfl⟩
 |er b n=>
  rw[hx]at h;exact absurd h (lY c 12 f.params f.body 0 b n hx)
theorem uM{r:Exp->ie Ty}:∀ {l:List Exp} {n n':Int} {ts:List Ty},gM r l n= .ok ts n'->∀x∈l,∃k t k',r x k= .ok t k'
 |[],_,_,_,_,x,hx=>by cases hx
 |e:: l,n,n',ts,h,x,hx=>by
  obtain⟨t,m,h1,h2⟩:=bind_ok h;obtain⟨ts',m',h3,_⟩:=bind_ok h2;rcases ac2.1 hx with rfl|hx
  ·exact⟨_,_,_,h1⟩
  ·exact uM h3 x hx
def GY{c:Tcx}{d:Nat}{ls:List ca}{e:Exp}{n n':Int}{t:Ty}(hs:pt e=true)(h:fh c (cz c d) ls e n= .ok t n'):∀y∈e.args,∃ls k t k',cz c d ls y k= .ok t k':=by
 have sc:=Gp hs;have none_:e.args.length=0->∀y∈e.args,∃ls k t k',cz c d ls y k= .ok t k':=fun hl y hy=>by
  rw[List.length_eq_zero_iff.1 hl]at hy;cases hy
 by_cases o2:e.op=2
 ·exact none_ WD
 by_cases o12:e.op=12
 ·rw[zD o12]at h;obtain⟨t1,m,h1,h2⟩:=bind_ok h;obtain⟨a,b,hab⟩:=Qb (l:=e.args) WD;rw[hab]at h1 h2 |-;intro y hy;rcases ac2.1 hy with rfl|hy
  ·exact⟨_,_,_,_,h1⟩
  ·rw[adk]at hy;subst hy;exact⟨_,_,_,_,h2⟩
 by_cases o17:e.op=17\/e.op=18
 ·by_cases o18:e.op=18
  ·rw[zC o17]at h;obtain⟨a,ha⟩:=Qa (l:=e.args) WD;split at h
   ·cases h
   ·rw[acL o18,ha]at h;obtain⟨u,m,h1,_⟩:=bind_ok h;rw[ha];intro y hy;rw[adk]at hy;subst hy;exact⟨_,_,_,_,h1⟩
  ·exact none_ WD
 by_cases o15:e.op=15
 ·rw[qL o15]at h;split at h
  ·cases h
  ·split at h
   ·obtain⟨l,m,h1,_⟩:=bind_ok h;exact fun y hy=>⟨ls,uM h1 y hy⟩
   ·cases h
 ·rw[wC o2 o12 o17 o15]at h;obtain⟨l,m,h1,_⟩:=bind_ok h;exact fun y hy=>⟨ls,uM h1 y hy⟩
theorem xA(c:Tcx):∀(d:Nat)(ls:List ca)(e:Exp)(n n':Int)(t:Ty),ey d e=true->cz c d ls e n= .ok t n'->∀x∈je e,x.op=15->∃s,fD c x=some s
 |0,_,_,_,_,_,hr,_=>by cases hr
 | d+1,ls,e,n,n',t,hr,h=>by
  rw[qH,acB]at hr;have h:fh c (cz c d) ls e n= .ok t n':=h;intro x hx o15;rw[re,ac2,aeQ]at hx;rcases hx with rfl|⟨y,hy,hx⟩
  ·rw[qL o15]at h;split at h
   ·cases h
   ·rename_i s hcal;exact⟨s,hcal⟩
  ·obtain⟨ls',k,u,k',h1⟩:=GY hr.1 h y hy;exact xA c d ls' y k k' u (acQ.1 hr.2 y hy) h1 x hx o15
def Mn{B:List Mod}{m:Mod}(h:J4 B m){f:Fun}(hf:f∈m.funcs){x:Exp}(hx:x∈je f.body)(h15:x.op=15):
  (x.m=[]/\∃g,m.funcs.find? (fun f=>f.name== x.s)=some g)\/(x.m≠[]/\∃b∈B,b.name=x.m):=by
 obtain⟨F,hc,hF⟩:=h;unfold fK at hc;split at hc
 ·rename_i hr;rw[acB]at hr;have hz:=Jd hc (f.name,KH (gH m (eP [] F)) f) (adt _ (adA _ (adj.2 ⟨f,hf,rfl⟩)));obtain⟨t,n,e1⟩:=KI hz;obtain⟨s,hs⟩:=xA _ 12 f.params f.body 0 n t ((mR hr.2).fns f hf).body e1 x hx h15;unfold fD gH at hs;simp only at hs;by_cases hm:x.m=[]
  ·left;refine⟨hm,?_⟩;rw[acL hm]at hs;cases hg:m.funcs.find? (fun f=>f.name== x.s)with
   |none=>rw[hg]at hs;cases hs
   |some g=>exact⟨g,rfl⟩
  ·right;refine⟨hm,?_⟩;rw[acE hm]at hs;cases hg:(eP [] F).find? (fun f=>f.module== x.m)with
   |none=>rw[hg]at hs;cases hs
   | some g=>
    have h1:=adD hg;have h2:=aeB hg;rcases EH _ _ g h1 with h3|h3
    ·cases h3
    ·obtain⟨b,hb,e⟩:=hF g h3;exact⟨b,hb,by rw[e];simpa using h2⟩
 ·cases hc
def Aa{B:List Mod}{M:aA}(h:∃b∈B,b.name=M):∃b,∀m:Mod,(B++[m]).find? (fun m=>m.name== M)=some b:=by
 obtain⟨b,hb,e⟩:=h;cases hf:B.find? (fun m=>m.name== M)with
 |none=>
  have:=aeC.1 hf b hb
  simp[e]at this
 |some c=>exact⟨c,fun m=>by rw[aeE,hf];rfl⟩
def kI{B:List Mod}{M:aA}(h:¬ ∃b∈B,b.name=M)(m:Mod):(B++[m]).find? (fun m=>m.name== M)=if m.name=M then some m else none:=by
 have h0:B.find? (fun m=>m.name== M)=none:=aeC.2 fun b hb e=>h ⟨b,hb,by simpa using e⟩;rw[aeE,h0];by_cases e:m.name=M
 ·simp[e]
 ·have:(m.name== M)=false:=by rw[acM];exact e
  simp[this,e]
def rX{p:List Mod}{r:aX}{g:Fun}(h:dq p r=some g):g.name=r.2/\∃m∈p,g∈m.funcs/\m.name=r.1:=by
 unfold dq at h;cases hm:p.find? (fun m=>m.name== r.1)with
 |none=>rw[hm]at h;cases h
 |some m=>
  rw[hm]at h;have h1:=aeB h;have h2:=aeB hm;exact⟨by simpa using h1,m,adD hm,adD h,by simpa using h2⟩
def rY{B:List Mod}{m o:Mod}(hn:m.name=o.name){r:aX}(h:(¬ ∃b∈B,b.name=r.1)->m.name=r.1->m.funcs.find? (fun f=>f.name== r.2)=o.funcs.find? fun f=>f.name== r.2):dq (B++[m]) r=dq (B++[o]) r:=by
 unfold dq;by_cases hb:∃b∈B,b.name=r.1
 ·obtain⟨b,e⟩:=Aa hb;rw[e,e]
 ·rw[kI hb,kI hb,<- hn];by_cases e:m.name=r.1
  ·simp only[acL e,h hb e]
  ·simp only[acE e]
def Nr{B:List Mod}{m o:Mod}(hn:m.name=o.name)(hv:m.vars=o.vars)(hi:m.init=o.init)(hB:∀b∈B,J4 B b)(hm:J4 B m){s:aA}(hs:∃f∈m.funcs,f.name=s)(hk:∀r∈ry (B++[m]) (m.name,s),r.1=m.name->m.funcs.find? (fun f=>f.name== r.2)=o.funcs.find? fun f=>f.name== r.2)(args:List Val)(world:List Int)(fuel:Int):
  eI (B++[m]) m.name s args world fuel=eI (B++[o]) m.name s args world fuel:=by
 have A:=AB (B:=B) hn hv;let G:Int->Fun->Prop:=fun a f=>∃M,a=eM (B++[m]) M/\(M,f.name)∈ry (B++[m]) (m.name,s)/\dq (B++[m]) (M,f.name)=some f;have hG:∀a f,G a f->sV (B++[m]) (B++[o]) G a f.body:=by
  rintro a f ⟨M,rfl,h1,h2⟩ x hx h15;have ea:jb (B++[m]) (eM (B++[m]) M) x=eM (B++[m]) (xc (M,f.name) x).1:=by
   unfold jb xc;by_cases h:x.m=[]<;>simp[h]
  have e1:iA (B++[m]) (jb (B++[m]) (eM (B++[m]) M) x) x.s=dq (B++[m]) (xc (M,f.name) x):=by rw[ea,mK];rfl
  have e2:iA (B++[o]) (jb (B++[m]) (eM (B++[m]) M) x) x.s=dq (B++[o]) (xc (M,f.name) x):=by rw[ea,A.mod,mK];rfl
  have hcl:∀g,dq (B++[m]) (xc (M,f.name) x)=some g->(x.m=[]\/g.pub=true)->xc (M,f.name) x∈ry (B++[m]) (m.name,s):=fun g hg hp=>by
   refine GT h1 (BE.2 ⟨x,?_,?_,rfl⟩)
   ·unfold vG;rw[h2];exact hx
   ·unfold xy;rw[hg,h15];rcases hp with hp|hp<;>simp[hp]
  refine⟨?_,fun g hg hp=>?_⟩
  ·rw[e1,e2];refine rY hn fun hb he=>?_;obtain⟨_,mm,hmm,hfm,hnm⟩:=rX h2;have hch:J4 B mm:=by
    rcases acZ.1 hmm with h|h
    ·exact hB mm h
    ·rw[adk]at h;subst h;exact hm
   rcases Mn hch hfm hx h15 with⟨h3,g,hg⟩|h3
   ·have et:xc (M,f.name) x=(M,x.s):=by unfold xc;rw[acL h3]
    rw[et]at hb he |- hcl;have hmo:mm=m:=by
     rcases acZ.1 hmm with h|h
     ·exact absurd ⟨mm,h,hnm⟩ hb
     ·exact adk.1 h
    subst hmo;have hfr:dq (B++[mm]) (M,x.s)=some g:=by
     unfold dq;rw[kI hb,acL he];exact hg
    exact hk _ (hcl g hfr (.inl h3)) he.symm
   ·have:(xc (M,f.name) x).1=x.m:=by unfold xc;rw[acE h3.1]
    rw[this]at hb;exact absurd h3.2 hb
  ·rw[e1]at hg;have hgn:=(rX hg).1;have hgn':(xc (M,f.name) x)=((xc (M,f.name) x).1,g.name):=by rw[hgn]
   exact⟨(xc (M,f.name) x).1,ea,by rw[<- hgn'];exact hcl g hg hp,by rw[<- hgn'];exact hg⟩
 have h0:dq (B++[m]) (m.name,s)=dq (B++[o]) (m.name,s):=by
  cases hf:dq (B++[m]) (m.name,s)with
  |none=>
   rw[<- hf];refine rY hn fun hb _=>?_;unfold dq at hf;rw[kI hb,acL rfl]at hf;obtain⟨f,h1,h2⟩:=hs
   have:=aeC.1 hf f h1
   simp[h2]at this
  |some f=>
   rw[<- hf];exact rY hn fun _ _=>hk _ (Eg (by rw[hf];rfl)) rfl
 refine Q3 hn hv hi hG m.name s (by rw[A.mod,<- A.mod,mK,A.mod,mK,h0]) (fun f hf=>?_) args world fuel;rw[mK]at hf;have hgn:=(rX hf).1;exact⟨m.name,rfl,by rw[hgn];exact Eg (by rw[hf];rfl),by rw[hgn];exact hf⟩
end Go.Av.Ap
namespace Go.Av.Ap
variable {α:Type}
theorem Be{β:Type}(g:α->β)(F:β->Bool):∀(l:List α)(i:Int),aL F (l.map g) i=aL (fun x=>F (g x)) l i
 |[],_=>rfl
 |x:: l,i=>by simp only[ac3,aL,Be g F l]
def gO:List aA->List aA->List aA
 |[],out=>out
 |s:: l,out=>if out.contains s=true then gO l out else gO l (out++[s])
theorem qy:∀(l out:List aA),(gO l out).length<=out.length+l.length
 |[],out=>by simp[gO]
 |s:: l,out=>by
  simp only[gO];split
  ·have:=qy l out;simp only[acR];omega
  ·have:=qy l (out++[s]);simp only[ac7,acR,acS]at this |-;omega
end Go.Av.Ap
namespace Go.Av.Ap
variable {h h':Hp}{α β:Type}
theorem cK{m:M α}{f:α->M β}{a:α}(e:m h= .ok a h'):aG m f h=f a h':=by simp only[aG,e]
def I2{m:M α}{f:α->M β}{v:AV}(e:m h= .pan v h'):aG m f h= .pan v h':=by simp only[aG,e]
def bF(l:List Val):List AV:=l.flatMap fun v=>ab v.av
theorem me(l:List Val):(bF l).length=l.length*4:=by
 induction l with
 |nil=>rfl
 |cons v l ih=>simp only[bF,aeg,ac7]at ih |-;rw[ih];simp;omega
variable {l:List Val}
def py{k:Nat}(h:k<l.length):((bF l).drop (k*4)).take 4=ab (l[k]).av:=by
 induction l generalizing k with
 |nil=>simp at h
 | cons v l ih=>
  cases k with
  |zero=>simp[bF]
  |succ k=>
   have:=ih (k:=k) (by simpa using h)
   simp only[bF,aeg]at this |-;have e:(k+1)*4=(ab v.av).length+k*4:=by simp;omega
   rw[e,List.drop_append,List.getElem_cons_succ]
   grind [List.drop_of_length_le]
def D1{k:Nat}(h:k<l.length)(v:Val):setCells (bF l) (k*4) (ab v.av)=bF (l.set k v):=by
 induction l generalizing k with
 |nil=>simp at h
 | cons w l ih=>
  cases k with
  |zero=>
   simp only[setCells,bF,aeg,afc,ady,acT,List.set_cons_zero];simp_all
  |succ k=>
   have:=ih (k:=k) (by simpa using h)
   simp only[setCells,bF,aeg,List.set_cons_succ]at this |-;have e:(k+1)*4=(ab w.av).length+k*4:=by simp;omega
   have e2:(ab w.av).length+k*4+(ab v.av).length-(ab w.av).length=k*4+(ab v.av).length:=WD
   simp_all
def eU(l:List Deed):List AV:=l.flatMap fun d=>[qi d.effect,qi d.arg,qi d.answer]
def zT(tag:Nat->Nat)(k:Nat)(h:Hp)(l:List Val)(v:AV):Prop:=(v=vals l\/l=[]/\v= .he)\/∃r,v= .hs r 0 l.length 4 true/\tag r=k/\h[r]? = some (bF l)
def gT(tag:Nat->Nat)(h:Hp):List Call->List AV->Prop
 |[],cs=>cs=[]
 |c:: l,cs=>∃av rest,cs= .str c.module:: .str c.func:: av:: rest/\zT tag 4 h c.args av/\gT tag h l rest
def dn(tag:Nat->Nat)(h:Hp):Nat->List aA->List (List Val)->List AV->Prop
 |_,[],[],cs=>cs=[]
 |i,n:: ns,l:: st,cs=>∃av rest,cs= .str n:: av:: rest/\((l=[]/\(av= .sl []\/av= .he))\/∃r,av= .hs r 0 l.length 4 true/\tag r=6+i/\h[r]? = some (bF l))/\dn tag h (i+1) ns st rest
 |_,_,_,_=>False
def IU(tag:Nat->Nat)(k sz n:Nat)(cells:List AV->Prop)(v:AV)(h:Hp):Prop:=(n=0/\v= .hn)\/∃q cs,v= .hs q 0 n sz true/\0<n/\tag q=k/\h[q]? = some cs/\cs.length=n*sz/\cells cs
structure SNm where
 names:List aA
 sv:AV
 cells:List AV
 told:Bool
structure RepT (row:Ms->AV->AV->AV->List AV) (nm:SNm) (tag:Nat->Nat) (dv cv sv:AV) (m:Ms) (h:Hp):Prop where
 r0:h[0]? = some (row m dv cv sv)
 t0:tag 0=0
 ds:IU tag 2 3 m.deeds.length (fun cs=>cs=eU m.deeds) dv h
 cs:IU tag 3 3 m.calls.length (fun cs=>gT tag h m.calls cs) cv h
 st:IU tag 5 2 m.state.length (fun cs=>cs=nm.cells/\dn tag h 0 nm.names m.state cs) sv h
 sve:sv=nm.sv
 wok:nm.told=true->m.world=[]
def Rep(row:Ms->AV->AV->AV->List AV)(nm:SNm)(m:Ms)(h:Hp):Prop:=∃tag dv cv sv,RepT row nm tag dv cv sv m h
def Kp(tag tag':Nat->Nat)(ks:Nat->Prop)(h h':Hp):Prop:=∀r cs,h[r]? = some cs->¬ks (tag r)->h'[r]? = some cs/\tag' r=tag r
variable {tag':Nat->Nat}{ks:Nat->Prop}
def zT.keep{tag:Nat->Nat}(K:Kp tag tag' ks h h'){k:Nat}(hk:¬ks k){v:AV}(H:zT tag k h l v):zT tag' k h' l v:=by
 rcases H with H|⟨r,h1,h2,h3⟩
 ·exact .inl H
 ·have:=K r _ h3 qr
  exact .inr ⟨r,h1,this.2.trans h2,this.1⟩
theorem gT.keep{tag:Nat->Nat}(K:Kp tag tag' ks h h')(hk:¬ks 4):{l:List Call} ->{cs:List AV} ->gT tag h l cs->gT tag' h' l cs
 |[],_,H=>H
 |_:: _,_,⟨av,rest,h1,h2,h3⟩=>⟨av,rest,h1,h2.keep K hk,h3.keep K hk⟩
theorem dn.keep{tag:Nat->Nat}(K:Kp tag tag' ks h h')(hk:∀i,¬ks (6+i)):{i:Nat} ->{nm:List aA} ->{st:List (List Val)} ->{cs:List AV} ->dn tag h i nm st cs->dn tag' h' i nm st cs
 |_,[],[],_,H=>H
 | i,_:: _,_:: _,_,⟨av,rest,h1,h2,h3⟩=>⟨av,rest,h1,by
   rcases h2 with h2|⟨r,g1,g2,g3⟩
   ·exact .inl h2
   ·have:=K r _ g3 qr
    grind,dn.keep K hk h3⟩
 |_,[],_:: _,_,H=>H.elim
 |_,_:: _,[],_,H=>H.elim
def IU.keep{tag:Nat->Nat}(K:Kp tag tag' ks h h'){k sz n:Nat}{c c':List AV->Prop}{v:AV}(hk:¬ks k)(hc:∀cs,c cs->c' cs)(H:IU tag k sz n c v h):IU tag' k sz n c' v h':=by
 rcases H with H|⟨q,cs,h1,h2,h3,h4,h5,h6⟩
 ·exact .inl H
 ·have:=K q _ h4 qr
  exact .inr ⟨q,cs,h1,h2,this.2.trans h3,this.1,h5,hc _ h6⟩
variable {cv dv sv:AV}{nm:SNm}
def RepT.set0{row:Ms->AV->AV->AV->List AV}{tag:Nat->Nat}{m m':Ms}(R:RepT row nm tag dv cv sv m h)(h1:m'.deeds=m.deeds)(h2:m'.calls=m.calls)(h3:m'.state=m.state)(h4:m.world=[]->m'.world=[]):
  RepT row nm tag dv cv sv m' (h.set 0 (row m' dv cv sv)):=by
 have hlt:0<h.length:=(acJ.1 R.r0).1;have K:Kp tag tag (fun k=>k=0) h (h.set 0 (row m' dv cv sv)):=fun r cs hr hk=>by
  have:r≠0:=fun e=>hk (by rw[e];exact R.t0)
  grind
 refine⟨qr,R.t0,?_,?_,?_,R.sve,fun t=>h4 (R.wok t)⟩
 ·rw[h1];exact R.ds.keep K Vc fun _ h=>h
 ·rw[h2];exact R.cs.keep K Vc fun _ h=>h.keep K Vc
 ·rw[h3];exact R.st.keep K Vc fun _ h=>⟨h.1,h.2.keep K WD⟩
def RepT.more{row:Ms->AV->AV->AV->List AV}{tag:Nat->Nat}{m:Ms}(R:RepT row nm tag dv cv sv m h)(x:List AV)(k:Nat):
  RepT row nm (fun i=>if i=h.length then k else tag i) dv cv sv m (h++[x])/\Kp tag (fun i=>if i=h.length then k else tag i) (fun _=>False) h (h++[x]):=by
 have K:Kp tag (fun i=>if i=h.length then k else tag i) (fun _=>False) h (h++[x]):=fun r cs hr _=>by
  grind
 exact⟨⟨(K 0 _ R.r0 id).1,(K 0 _ R.r0 id).2.trans R.t0,R.ds.keep K id fun _ h=>h,R.cs.keep K id fun _ h=>h.keep K id,R.st.keep K id fun _ h=>⟨h.1,h.2.keep K (fun _=>id)⟩,R.sve,R.wok⟩,K⟩
def abW{tag:Nat->Nat}{q:Nat}{k:Nat}(hq:tag q=k)(x:List AV):Kp tag tag (fun j=>j=k) h (h.set q x):=fun r cs hr hk=>by
 grind
variable {cs:List AV}{t:Nat}{ti:TI}
def eD{T:TT}(ht:T t=some ti)(ha:ti.agg=false){l k:Nat}{v:AV}(h0:h[l]? = some cs)(h1:cs[k]? = some v):bM T t (.hp l k) h= .ok v h:=by
 simp[bM,ht,h0,ha,h1]
def uN{T:TT}(ht:T t=some ti)(ha:ti.agg=true){l k:Nat}(h0:h[l]? = some cs)(hle:k+ti.size<=cs.length):bM T t (.hp l k) h= .ok (.agg ((cs.drop k).take ti.size)) h:=by
 simp[bM,ht,h0,ha,hle]
def iz{T:TT}(ht:T t=some ti){l k:Nat}{v:AV}(h0:h[l]? = some cs)(hv:cn ti.size v=true)(hle:k+ti.size<=cs.length)(hp:0<ti.size):
  cG T t (.hp l k) v h= .ok (.tup []) (h.set l (setCells cs k (ab v))):=by
 simp[cG,ht,h0,hv,hle,hp]
variable {ei:TI}
def L6{T:TT}{e:Nat}(ht:T t=some ti)(hk:ti.kind= .slice e)(he:T e=some ei){x:AV}(hx:cn ei.size x=true)(hb:0<ei.bytes)(hs:0<ei.size)(hc:ei.bytes<=140737488355328)(h:Hp):
  appH T t false .hn (.sl [x]) h= .ok (.hs h.length 0 1 ei.size ei.agg) (h++[ab x]):=by
 simp_all[dK,appH,jX,nd]
def L8{T:TT}{e:Nat}(ht:T t=some ti)(hk:ti.kind= .slice e)(he:T e=some ei){x:AV}(hx:cn ei.size x=true)(hb:0<ei.bytes)(hs:0<ei.size){q n:Nat}(h0:h[q]? = some cs)(hok:cs.all aO=true)(hl:cs.length=n*ei.size)(hn:0<n)(hc:(n+1)*ei.bytes<=140737488355328):appH T t false (.hs q 0 n ei.size ei.agg) (.sl [x]) h= .ok (.hs h.length 0 (n+1) ei.size ei.agg) ((h.set q [])++[cs++ab x]):=by
 have h1:dK ei.size [x]=true:=by simp[dK,hx]
 have h2:List.all cs aO=true:=hok;simp only[appH,ht,hk,he,jX,h1,hb,hs,nd,h0,h2,hl,hn,acX,aea,acD,adU,ad2,List.isEmpty_cons,acO,aeg,List.flatMap_nil,adL]
 grind [Nat.mul_pos]
theorem vI{T:TT}{e:Nat}(ht:T t=some ti)(hk:ti.kind= .slice e)(he:T e=some ei)(h4:ei.size=4)(hag:ei.agg=true)(hb:0<ei.bytes)(call:FuncId->List AV->M AV)(l:List Val)(hc:l.length*ei.bytes<=140737488355328)(h:Hp):
  eG T t call [vals l] h=if l=[]then .ok (vals []) h else .ok (.hs h.length 0 l.length 4 true) (h++[bF l]):=by
 have h1:dK 4 (gJ l)=true:=Lg l;have hlen:(gJ l).length=l.length:=by simp[fT]
 have hfl:(gJ l).flatMap ab=bF l:=by simp[fT,bF,List.flatMap_map]
 cases l with
 |nil=>simp_all[eG,appH,jX,nd,vals,dK]
 |cons v l=>
  have hne:(gJ (v:: l)).isEmpty=false:=rfl;unfold eG vals appH;simp only[ht,hk,he,jX,h4,h1,hb,nd,acX,aea,aer,acD,hne,acO,hlen,hfl,hag]
  grind
theorem gT.ok{tag:Nat->Nat}:{l:List Call} ->{cs:List AV} ->gT tag h l cs->cs.all aO=true/\cs.length=l.length*3
 |[],cs,H=>by cases H;grind
 | c:: l,_,⟨av,rest,h1,h2,h3⟩=>by
  subst h1;obtain⟨g1,g2⟩:=h3.ok;have:aO av=true:=by
   rcases h2 with(rfl|⟨_,rfl⟩)|⟨r,rfl,_⟩<;>rfl
  refine⟨?_,qr⟩;rw[adz,adz,adz,this,g1];rfl
theorem gT.snoc{tag:Nat->Nat}{c:Call}{av:AV}(ha:zT tag 4 h c.args av):{l:List Call} ->{cs:List AV} ->gT tag h l cs->gT tag h (l++[c]) (cs++[.str c.module,.str c.func,av])
 |[],cs,H=>by cases H;exact⟨av,[],rfl,ha,rfl⟩
 |d:: l,_,⟨av',rest,h1,h2,h3⟩=>⟨av',rest++[.str c.module,.str c.func,av],by rw[h1];rfl,h2,gT.snoc ha h3⟩
def CM(l:List Deed):(eU l).all aO=true:=by simp[eU,aO]
theorem dn.at{tag:Nat->Nat}:{i:Nat} ->{nm:List aA} ->{st:List (List Val)} ->{cs:List AV} ->dn tag h i nm st cs->∀(j:Nat)(l:List Val),st[j]? = some l->
  ∃av,cs[j*2+1]? = some av/\((l=[]/\(av= .sl []\/av= .he))\/∃r,av= .hs r 0 l.length 4 true/\tag r=6+(i+j)/\h[r]? = some (bF l))
 |_,[],[],_,_,j,l,hj=>by simp at hj
 | i,_:: _,_:: _,_,⟨av,rest,h1,h2,h3⟩,j,l,hj=>by
  subst h1;cases j with
  |zero=>grind
  |succ j=>
   obtain⟨av',g1,g2⟩:=h3.at j l (by simpa using hj)
   grind
 |_,[],_:: _,_,H,_,_,_=>H.elim
 |_,_:: _,[],_,H,_,_,_=>H.elim
theorem dn.len{tag:Nat->Nat}:{i:Nat} ->{nm:List aA} ->{st:List (List Val)} ->{cs:List AV} ->dn tag h i nm st cs->nm.length=st.length
 |_,[],[],_,_=>rfl
 |_,_:: _,_:: _,_,⟨_,_,_,_,h3⟩=>by simp[h3.len]
 |_,[],_:: _,_,H=>H.elim
 |_,_:: _,[],_,H=>H.elim
theorem dn.set{tag:Nat->Nat}{r k:Nat}{v:Val}:{i:Nat} ->{nm:List aA} ->{st:List (List Val)} ->{cs:List AV} ->dn tag h i nm st cs->∀(j:Nat)(l:List Val),st[j]? = some l->tag r=6+(i+j)->h[r]? = some (bF l)->cs[j*2+1]? = some (.hs r 0 l.length 4 true)->
  k<l.length->dn tag (h.set r (bF (l.set k v))) i nm (setSt st j k v) cs
 |_,[],[],_,_,j,l,hj,_,_,_,_=>by simp at hj
 | i, n:: ns,l0:: st,_,⟨av,rest,h1,h2,h3⟩,j,l,hj,ht,hr,hc,hk=>by
  subst h1;have hlt:r<h.length:=(acJ.1 hr).1;cases j with
  | zero=>
   simp only[acV,acz]at hj;subst hj;simp only[afc,ac8,adc,acV,acz]at hc;have e:setSt (l0:: st) 0 k v=l0.set k v:: st:=by simp[setSt]
   rw[e];refine⟨av,rest,rfl,.inr ⟨r,qr,ht,adu hlt⟩,?_⟩;have K:Kp tag tag (fun t=>t=6+i) h (h.set r (bF (l0.set k v))):=abW (by rw[ht];rfl) _;have key:∀ {i':Nat} {nm':List aA} {st':List (List Val)} {cs':List AV},i<i'->dn tag h i' nm' st' cs'->dn tag (h.set r (bF (l0.set k v))) i' nm' st' cs':=by
    intro i' nm' st'
    induction st' generalizing i' nm' with
    |nil=>intro cs' hi H;cases nm' with
     |nil=>exact H
     |cons _ _=>exact H.elim
    | cons a st' ih=>intro cs' hi H;cases nm' with
     |nil=>exact H.elim
     |cons b nm'=>
      obtain⟨av2,rest2,k1,k2,k3⟩:=H;refine⟨av2,rest2,k1,?_,ih WD k3⟩
      grind
   grind
  | succ j=>
   have e:setSt (l0:: st) (j+1) k v=l0:: setSt st j k v:=by simp[setSt]
   rw[e];have hc':rest[j*2+1]? = some (.hs r 0 l.length 4 true):=by
    rw[show (j+1)*2+1=j*2+1+2 by omega]at hc;simpa using hc
   refine⟨av,rest,rfl,?_,h3.set j l (by simpa using hj) (by rw[ht];omega) hr hc' hk⟩
   grind
 |_,[],_:: _,_,H,_,_,_,_,_,_,_=>H.elim
 |_,_:: _,[],_,H,_,_,_,_,_,_,_=>H.elim
variable {h1:Hp}
def Kp.trans{a b c:Nat->Nat}{js:Nat->Prop}{h2:Hp}(K:Kp a b ks h h1)(J:Kp b c js h1 h2):Kp a c (fun k=>ks k\/js k) h h2:=fun r cs hr hk=>by
 obtain⟨k1,k2⟩:=K r cs hr fun h=>hk (.inl h);obtain⟨j1,j2⟩:=J r cs k1 fun h=>hk (.inr (by rwa [k2]at h))
 grind
def Kp.new(tag:Nat->Nat)(h:Hp)(x:List AV)(k:Nat):Kp tag (fun i=>if i=h.length then k else tag i) (fun _=>False) h (h++[x]):=fun r cs hr _=>by
 grind
theorem Kp.mono{a b:Nat->Nat}{js:Nat->Prop}(K:Kp a b ks h h1)(hj:∀k,ks k->js k):Kp a b js h h1:=fun r cs hr hk=>K r cs hr fun h=>hk (hj _ h)
def zb{T:TT}{e:Nat}(ht:T t=some ti)(hk:ti.kind= .slice e)(he:T e=some ei){sz:Nat}(h3:ei.size=sz)(hsz:0<sz)(hag:ei.agg=true)(hb:0<ei.bytes){tag:Nat->Nat}{k n:Nat}{P:List AV->Prop}{v x:AV}(H:IU tag k sz n P v h)(hP0:n=0->P [])(hok:∀cs,P cs->cs.all aO=true)(hx:cn sz x=true)(hc:(n+1)*ei.bytes<=140737488355328):
  ∃h1 v' tag',appH T t false v (.sl [x]) h= .ok v' h1/\Kp tag tag' (fun j=>j=k) h h1/\IU tag' k sz (n+1) (fun cs'=>∃cs,P cs/\cs'=cs++ab x) v' h1/\aO v'=true:=by
 have hxl:(ab x).length=sz:=by
  unfold cn at hx;simp only[acB,ada]at hx;have h1:=hx.1;cases x<;>simp only[cW,acz,reduceCtorEq]at h1<;>simp only[ab,ad2]<;>exact h1
 have hx':cn ei.size x=true:=by rw[h3];exact hx
 rcases H with⟨hn,rfl⟩|⟨q,cs,rfl,hn,hq,hcs,hl,hp⟩
 ·subst hn;refine⟨_,_,_,L6 ht hk he hx' hb WD WD h,(Kp.new tag h (ab x) k).mono fun _ h=>h.elim,.inr ⟨h.length,ab x,by rw[h3,hag],WD,AI,AI,by simpa using hxl,[],hP0 rfl,rfl⟩,rfl⟩
 ·have e1:=L8 ht hk he hx' hb WD hcs (hok cs hp) qr hn hc;rw[h3,hag]at e1;have K1:Kp tag tag (fun j=>j=k) h (h.set q []):=abW hq [];have K2:=Kp.new tag (h.set q []) (cs++ab x) k;refine⟨_,_,_,e1,(K1.trans K2).mono fun j h=>h.elim id False.elim,.inr ⟨h.length,cs++ab x,rfl,WD,AI,?_,qr,cs,hp,rfl⟩,rfl⟩
  grind
def RepT.pushDeed{row:Ms->AV->AV->AV->List AV}{nm:SNm}{tag tag':Nat->Nat}{dv dv' cv sv:AV}{m m':Ms}{h h1:Hp}{d:Deed}(R:RepT row nm tag dv cv sv m h)(K:Kp tag tag' (fun j=>j=2) h h1)(H:IU tag' 2 3 (m.deeds.length+1) (fun cs'=>∃cs,cs=eU m.deeds/\cs'=cs++ab d.av) dv' h1)(hd:m'.deeds=m.deeds++[d])(hc:m'.calls=m.calls)(hs:m'.state=m.state)(h4:m.world=[]->m'.world=[]):RepT row nm tag' dv' cv sv m' (h1.set 0 (row m' dv' cv sv)):=by
 obtain⟨k1,k2⟩:=K 0 _ R.r0 (by rw[R.t0];decide);have hlt:0<h1.length:=(acJ.1 k1).1;have t0:=k2.trans R.t0;have K0:Kp tag' tag' (fun j=>j=0) h1 (h1.set 0 (row m' dv' cv sv)):=abW t0 _;refine⟨adu hlt,t0,?_,?_,?_,R.sve,fun t=>h4 (R.wok t)⟩
 ·rw[hd,ac7];refine H.keep K0 Vc ?_;rintro cs' ⟨cs,rfl,rfl⟩;show eU m.deeds++[AV.int .i64 d.effect,.int .i64 d.arg,.int .i64 d.answer]=_;simp[eU]
 ·rw[hc];exact (R.cs.keep K (c':=gT tag' h1 m.calls) Vc fun _ h=>h.keep K Vc).keep K0 Vc fun _ h=>h.keep K0 Vc
 ·rw[hs];exact (R.st.keep K (c':=fun cs=>cs=nm.cells/\dn tag' h1 0 nm.names m.state cs) Vc fun _ h=>⟨h.1,h.2.keep K WD⟩).keep K0 Vc fun _ h=>⟨h.1,h.2.keep K0 WD⟩
def RepT.pushCall{row:Ms->AV->AV->AV->List AV}{tag:Nat->Nat}{cv':AV}{m m':Ms}{c:Call}{av:AV}(R:RepT row nm tag dv cv sv m h)(K:Kp tag tag' (fun j=>j=3) h h1)(ha:zT tag 4 h c.args av)(H:IU tag' 3 3 (m.calls.length+1) (fun cs'=>∃cs,gT tag h m.calls cs/\cs'=cs++[.str c.module,.str c.func,av]) cv' h1)(hd:m'.deeds=m.deeds)(hc:m'.calls=m.calls++[c])(hs:m'.state=m.state)(h4:m.world=[]->m'.world=[]):RepT row nm tag' dv cv' sv m' (h1.set 0 (row m' dv cv' sv)):=by
 obtain⟨k1,k2⟩:=K 0 _ R.r0 (by rw[R.t0];decide);have hlt:0<h1.length:=(acJ.1 k1).1;have t0:=k2.trans R.t0;have K0:Kp tag' tag' (fun j=>j=0) h1 (h1.set 0 (row m' dv cv' sv)):=abW t0 _;refine⟨adu hlt,t0,?_,?_,?_,R.sve,fun t=>h4 (R.wok t)⟩
 ·rw[hd];exact (R.ds.keep K (c':=fun cs=>cs=eU m.deeds) Vc fun _ h=>h).keep K0 Vc fun _ h=>h
 ·rw[hc,ac7];refine H.keep K0 Vc ?_;rintro cs' ⟨cs,hcs,rfl⟩;exact ((hcs.keep K Vc).snoc (ha.keep K Vc)).keep K0 Vc
 ·rw[hs];exact (R.st.keep K (c':=fun cs=>cs=nm.cells/\dn tag' h1 0 nm.names m.state cs) Vc fun _ h=>⟨h.1,h.2.keep K WD⟩).keep K0 Vc fun _ h=>⟨h.1,h.2.keep K0 WD⟩
def RepT.var{row:Ms->AV->AV->AV->List AV}{tag:Nat->Nat}{m:Ms}(R:RepT row nm tag dv cv sv m h)(hrow:∀st,row { m with state:=st } dv cv sv=row m dv cv sv){i:Nat}(hl:m.state[i]? = some l)(hne:l≠[]):
  ∃q r,nm.sv= .hs q 0 m.state.length 2 true/\h[q]? = some nm.cells/\nm.cells[i*2+1]? = some (.hs r 0 l.length 4 true)/\nm.cells.length=m.state.length*2/\h[r]? = some (bF l)/\
   ∀(k:Nat)(v:Val),k<l.length->RepT row nm tag dv cv sv { m with state:=setSt m.state i k v } (h.set r (bF (l.set k v))):=by
 have hi:i<m.state.length:=(acJ.1 hl).1;rcases R.st with⟨h0,_⟩|⟨q,cs,h1,h2,h3,h4,h5,rfl,h6⟩
 ·omega
 ·obtain⟨av,g1,g2⟩:=h6.at i l hl;rcases g2 with⟨g2,_⟩|⟨r,rfl,g3,g4⟩
  ·grind
  ·rw[ac8]at g3;refine⟨q,r,by rw[<- R.sve,h1],h4,g1,h5,g4,fun k v hk=>?_⟩;have K:Kp tag tag (fun j=>j=6+i) h (h.set r (bF (l.set k v))):=abW g3 _;refine⟨?_,R.t0,?_,?_,?_,R.sve,R.wok⟩
   ·rw[hrow];exact (K 0 _ R.r0 (by rw[R.t0];omega)).1
   ·exact R.ds.keep K WD fun _ h=>h
   ·exact R.cs.keep K WD fun _ h=>h.keep K WD
   ·right;have hq:r≠q:=fun e=>qr
    refine⟨q,nm.cells,by rw[h1];simp[setSt],by simpa [setSt]using h2,h3,qr,by simpa [setSt]using h5,rfl,?_⟩;exact h6.set i l hl qr g4 g1 hk
theorem dn.snoc{tag:Nat->Nat}{n:aA}{av:AV}:{i:Nat} ->{nm:List aA} ->{st:List (List Val)} ->{cs:List AV} ->dn tag h i nm st cs->
  ((l=[]/\(av= .sl []\/av= .he))\/∃r,av= .hs r 0 l.length 4 true/\tag r=6+(i+st.length)/\h[r]? = some (bF l))->dn tag h i (nm++[n]) (st++[l]) (cs++[.str n,av])
 |i,[],[],cs,H,ha=>by
  have H':cs=[]:=H;subst H';exact⟨av,[],rfl,ha,rfl⟩
 |i,_:: _,l0:: st,_,⟨av',rest,h1,h2,h3⟩,ha=>by
  refine⟨av',rest++[.str n,av],by rw[h1];rfl,h2,h3.snoc ?_⟩
  grind
 |_,[],_:: _,_,H,_=>H.elim
 |_,_:: _,[],_,H,_=>H.elim
theorem dn.ok{tag:Nat->Nat}:{i:Nat} ->{nm:List aA} ->{st:List (List Val)} ->{cs:List AV} ->dn tag h i nm st cs->cs.all aO=true
 |_,[],[],cs,H=>by
  have H':cs=[]:=H
  grind
 | _,_:: _,_:: _,_,⟨av,rest,h1,h2,h3⟩=>by
  subst h1;have:aO av=true:=by
   rcases h2 with⟨_,rfl|rfl⟩|⟨r,rfl,_⟩<;>rfl
  rw[adz,adz,this,h3.ok];rfl
 |_,[],_:: _,_,H=>H.elim
 |_,_:: _,[],_,H=>H.elim
def RepT.pushState{row:Ms->AV->AV->AV->List AV}{tag:Nat->Nat}{sv':AV}{m:Ms}{n:aA}{av:AV}(R:RepT row nm tag dv cv sv m h)(K:Kp tag tag' (fun j=>j=5) h h1)(ha:(l=[]/\(av= .sl []\/av= .he))\/∃r,av= .hs r 0 l.length 4 true/\tag r=6+m.state.length/\h[r]? = some (bF l))(H:IU tag' 5 2 (m.state.length+1) (fun cs'=>∃cs,(cs=nm.cells/\dn tag h 0 nm.names m.state cs)/\cs'=cs++[.str n,av]) sv' h1):
  RepT row ⟨nm.names++[n],sv',nm.cells++[.str n,av],nm.told⟩ tag' dv cv sv' { m with state:=m.state++[l] } (h1.set 0 (row { m with state:=m.state++[l] } dv cv sv')):=by
 obtain⟨k1,k2⟩:=K 0 _ R.r0 (by rw[R.t0];decide);have hlt:0<h1.length:=(acJ.1 k1).1;have t0:=k2.trans R.t0;have K0:Kp tag' tag' (fun j=>j=0) h1 (h1.set 0 (row { m with state:=m.state++[l] } dv cv sv')):=abW t0 _;refine⟨adu hlt,t0,?_,?_,?_,rfl,R.wok⟩
 ·exact (R.ds.keep K (c':=fun cs=>cs=eU m.deeds) Vc fun _ h=>h).keep K0 Vc fun _ h=>h
 ·exact (R.cs.keep K (c':=gT tag' h1 m.calls) Vc fun _ h=>h.keep K Vc).keep K0 Vc fun _ h=>h.keep K0 Vc
 ·simp only[ac7,ad2];refine H.keep K0 Vc ?_;rintro cs' ⟨cs,⟨rfl,hcs⟩,rfl⟩;refine⟨rfl,?_⟩;have h2:=hcs.snoc (n:=n) (l:=l) (av:=av) qr;exact (h2.keep K WD).keep K0 WD
def Jk(d:Nat)(h:Hp):Nat->Nat->Nat->Nat->Bool->AV:=fun l off len sz ag=>match h[l]? with
 | some cs=>bif decide (off+len*sz<=cs.length)&&decide (0<sz)&&(ag||(Nat.beq sz 1&&cs.all aO))then
   .sl ((List.range len).map fun i=>jt d h (bif ag then .agg ((cs.drop (off+i*sz)).take sz)else aD cs (off+i*sz)))else .any
 |none=>.any
theorem tv(d:Nat)(h:Hp)(a:AV):jt (d+1) h a=cl (Jk d h) a:=rfl
def rj{l:List α}{f:Nat->β}{g:α->β}(h:∀i x,l[i]? = some x->f i=g x):(List.range l.length).map f=l.map g:=by
 apply adZ
 grind
variable {d:Nat}
def wY{q n sz:Nat}(h0:h[q]? = some cs)(hl:cs.length=n*sz)(hz:0<sz):Jk d h q 0 n sz true= .sl ((List.range n).map fun i=>jt d h (.agg ((cs.drop (i*sz)).take sz))):=by
 simp_all[Jk]
def PR(d:Nat)(h:Hp)(v:Val):jt d h v.av=v.av:=by
 cases d with
 |zero=>exact Hi _ v
 |succ d=>exact Hi _ v
def E1{r:Nat}(h0:h[r]? = some (bF l)):Jk d h r 0 l.length 4 true=vals l:=by
 rw[wY h0 (me l) Vc];unfold vals;rw[fT];congr 1;refine rj fun i v hv=>?_;have hi:=(acJ.1 hv).1;rw[py hi,(acJ.1 hv).2];have:AV.agg (ab v.av)=v.av:=AI
 rw[this,PR]
def US{tag:Nat->Nat}{k:Nat}{av:AV}(H:zT tag k h l av):cl (Jk d h) av=vals l:=by
 rcases H with(rfl|⟨rfl,rfl⟩)|⟨r,rfl,_,h0⟩
 ·simp_all
 ·rfl
 ·exact E1 h0
theorem gT.at{tag:Nat->Nat}:{l:List Call} ->{cs:List AV} ->gT tag h l cs->∀(i:Nat)(c:Call),l[i]? = some c->∃av,(cs.drop (i*3)).take 3=[.str c.module,.str c.func,av]/\zT tag 4 h c.args av
 |[],_,_,i,c,hc=>by simp at hc
 | d:: l,_,⟨av,rest,h1,h2,h3⟩,i,c,hc=>by
  subst h1;cases i with
  |zero=>grind
  |succ i=>
   obtain⟨av',g1,g2⟩:=h3.at i c (by simpa using hc)
   grind
def KM{tag:Nat->Nat}{l:List Call}{v:AV}(H:IU tag 3 3 l.length (fun cs=>gT tag h l cs) v h):cl (Jk (d+1) h) v=calls l:=by
 rcases H with⟨h0,rfl⟩|⟨q,cs,rfl,_,_,h4,h5,h6⟩
 ·have:l=[]:=acW h0;subst this;rfl
 ·show Jk (d+1) h q 0 l.length 3 true=_;rw[wY h4 h5 Vc];unfold calls;congr 1;refine rj fun i c hc=>?_;obtain⟨av,g1,g2⟩:=h6.at i c hc;rw[g1,tv];show AV.agg [.str c.module,.str c.func,cl (Jk d h) av]=_;rw[US g2];rfl
def CL{l:List Deed}{i:Nat}{d:Deed}(h:l[i]? = some d):((eU l).drop (i*3)).take 3=[.int .i64 d.effect,.int .i64 d.arg,.int .i64 d.answer]:=by
 induction l generalizing i with
 |nil=>simp at h
 | cons x l ih=>
  cases i with
  |zero=>simp at h;subst h;simp[eU]
  |succ i=>
   grind [eU]
def KN{d:Nat}{tag:Nat->Nat}{h:Hp}{l:List Deed}{v:AV}(H:IU tag 2 3 l.length (fun cs=>cs=eU l) v h):cl (Jk (d+1) h) v=deeds l:=by
 rcases H with⟨h0,rfl⟩|⟨q,cs,rfl,_,_,h4,h5,rfl⟩
 ·have:l=[]:=acW h0;subst this;rfl
 ·show Jk (d+1) h q 0 l.length 3 true=_;simp_all[wY,deeds,rj,CL,tv]
theorem dn.at2{tag:Nat->Nat}:{i:Nat} ->{nm:List aA} ->{st:List (List Val)} ->{cs:List AV} ->dn tag h i nm st cs->∀(j:Nat)(x:Vars),(List.zipWith Vars.mk nm st)[j]? = some x->
  ∃av,(cs.drop (j*2)).take 2=[.str x.module,av]/\((x.values=[]/\(av= .sl []\/av= .he))\/∃r,av= .hs r 0 x.values.length 4 true/\h[r]? = some (bF x.values))
 |_,[],[],_,_,j,x,hx=>by simp at hx
 | i,n:: ns,l:: st,_,⟨av,rest,h1,h2,h3⟩,j,x,hx=>by
  subst h1;cases j with
  |zero=>
   grind
  |succ j=>
   obtain⟨av',g1,g2⟩:=h3.at2 j x (by simpa using hx)
   grind
 |_,[],_:: _,_,H,_,_,_=>H.elim
 |_,_:: _,[],_,H,_,_,_=>H.elim
def HJ{tag:Nat->Nat}{nm:List aA}{c0:List AV}{st:List (List Val)}{v:AV}(H:IU tag 5 2 st.length (fun cs=>cs=c0/\dn tag h 0 nm st cs) v h):cl (Jk (d+1) h) v=cH (List.zipWith Vars.mk nm st):=by
 rcases H with⟨h0,rfl⟩|⟨q,cs,rfl,_,_,h4,h5,_,h6⟩
 ·have:st=[]:=acW h0;subst this;cases nm<;>rfl
 ·have hl:(List.zipWith Vars.mk nm st).length=st.length:=by simp[h6.len]
  show Jk (d+1) h q 0 st.length 2 true=_;rw[wY h4 h5 Vc,<- hl];unfold cH;congr 1;refine rj fun i c hc=>?_;obtain⟨av,g1,g2⟩:=h6.at2 i c hc;rw[g1,tv];have:cl (Jk d h) av=vals c.values:=by
   rcases g2 with⟨e1,rfl|rfl⟩|⟨r,rfl,g3⟩
   ·rw[e1];rfl
   ·rw[e1];rfl
   ·exact E1 g3
  show AV.agg [.str c.module,cl (Jk d h) av]=_;simp_all
def jf{v:AV}(h:aO v=true):cn 1 v=true/\ab v=[v]/\cW v=some 1:=by
 cases v with
 |any=>cases h
 |agg _=>cases h
 |tup _=>cases h
 |nilb _=>cases h
 |byt _ _=>cases h
 |it _=>cases h
 |_=>exact⟨rfl,rfl,rfl⟩
def mu(m:Ms):Int:=m.deeds.length+m.calls.length+m.fuel
def TQ(k:Int)(x:X α):Prop:=∀m a s,0<=m.fuel->x m= .ok a s->mu s<=mu m+k/\s.fuel<=m.fuel/\0<=s.fuel/\s.frames=m.frames
def J0{k:Int}{a:α}(hk:0<=k):TQ k (.ok a):=fun m b s h0 h=>by cases h;grind
def OE{k:Int}{e:Int}:TQ k (α:=α) (.er e):=fun m b s _ h=>by cases h
def Ro{j k:Int}{x:X α}{f:α->X β}(hx:TQ j x)(hf:∀a,TQ k (f a)):TQ (j+k) (x.bind f):=by
 intro m b s h0 h;unfold X.bind at h;cases hr:x m with
 |er e t=>grind
 |ok a t=>
  rw[hr]at h;obtain⟨h1,h2,h3,h4⟩:=hx m a t h0 hr;obtain⟨g1,g2,g3,g4⟩:=hf a t b s h3 h
  grind
theorem fj{k:Int}{x:X α}{f:α->X β}(hx:TQ 0 x)(hf:∀a,TQ k (f a)):TQ k (x.bind f):=by
 have:=Ro hx hf
 grind
theorem JZ{j k:Int}{x:X α}(h:TQ j x)(hk:j<=k):TQ k x:=fun m a s h0 e=>by
 obtain⟨h1,h2⟩:=h m a s h0 e
 grind
def ez{k:Int}{c:Prop}[Decidable c]{x y:X α}(h1:TQ k x)(h2:TQ k y):TQ k (if c then x else y):=by
 grind
theorem nH{r:X Val}(h:TQ 0 r):TQ 0 (boolX r):=fj h fun _=>ez (J0 (afk _)) OE
theorem ru{r:Exp->X Val}(h:∀e,TQ 0 (r e)):∀l,TQ 0 (listX r l)
 |[]=>J0 (afk _)
 |e:: l=>fj (h e) fun _=>fj (ru h l) fun _=>J0 (afk _)
def og(p:List Mod)(r:Ev)(a:Int)(f:Fun)(l:List Val)(m:Ms):cS p r a f l m=if m.frames<60 then((r a (f.params.map (·.1)) l f.body).bind fun v=>.upd (fun m=>{ m with frames:=m.frames-1 }) (.ok v)) (mD p a f l m)else .er 6 m:=by
 unfold cS X.get;by_cases h:m.frames<60
 ·simp only[h,acK];rfl
 ·simp only[h,acI];rfl
variable {r:Ev}{p:List Mod}
def zK{a:Int}{f:Fun}(hr:∀o ns vs e,TQ 0 (r o ns vs e)):TQ 1 (cS p r a f l):=by
 intro m v s h0 h;rw[og]at h;split at h
 ·unfold X.bind at h;cases hr':r a (f.params.map (·.1)) l f.body (mD p a f l m)with
  |er e t=>grind
  |ok b t=>
   rw[hr']at h;cases h;obtain⟨h1,h2,h3,h4⟩:=hr _ _ _ _ (mD p a f l m) v t h0 hr'
   grind [mu,mD]
 ·cases h
def Rp(hr:∀o ns vs e,TQ 0 (r o ns vs e))(o:Int)(ns:List aA)(vs:List Val)(e:Exp):TQ 0 (nF p r o ns vs e):=by
 have tick:∀y:X Val,TQ 1 y->TQ 0 (ka y):=fun y hy m a s h0 h=>by
  unfold ka X.get at h;by_cases hf:m.fuel<=0
  ·simp only[hf,acK]at h;cases h
  ·simp only[hf,acI]at h;obtain⟨h1,h2,h3,h4⟩:=hy { m with fuel:=m.fuel-1 } a s qr h
   grind [mu]
 have H:=fun e=>hr o ns vs e;have ok1:∀(α:Type)(a:α),TQ 1 (.ok a):=fun _ _=>J0 WD;have er1:∀(α:Type) e,TQ 1 (α:=α) (.er e):=fun _ _=>OE;have H1:=fun e=>JZ (H e) (show (0:Int)<=1 by omega);refine tick _ ?_;refine ez (er1 _ _) (ez (ok1 _ _) (ez (ez (ok1 _ _) (er1 _ _)) (ez ?_ (ez ?_ (ez ?_ (ez ?_ (ez ?_ (ez ?_ (ez ?_ (ez ?_ (ez ?_ (ez ?_ ?_))))))))))))
 ·grind
 ·refine fj (H _) fun a=>fj (H _) fun b=>?_;unfold pW
  grind
 ·exact fj (nH (H _)) fun a=>ez (ok1 _ _) (fj (nH (H _)) fun b=>ok1 _ _)
 ·grind [fj,nH]
 ·simp_all[fj,nH]
 ·grind [fj,JZ]
 ·unfold iX;exact ez (ez (fj (ru H _) fun vs=>ez (ok1 _ _) (er1 _ _)) (er1 _ _)) (er1 _ _)
 ·refine fj (H _) fun v=>?_
  grind
 ·unfold pC;simp only;split
  ·exact er1 _ _
  ·exact ez (ez (fj (ru H _) fun l=>zK hr) (er1 _ _)) (er1 _ _)
 ·unfold Cq;refine fj (H _) fun v=>ez (ez (fun m a s h0 h=>?_) (er1 _ _)) (er1 _ _);cases h;simp only[mu]
  grind
 ·unfold wP;refine ez (er1 _ _) ?_;simp only;refine ez (er1 _ _) (ez (fj (H _) fun v m a s h0 h=>?_) fun m a s h0 h=>?_)
  ·cases h;exact⟨by simp only[mu];omega,afk _,h0,rfl⟩
  ·cases h
   grind
theorem pw{p:List Mod}:∀(n:Nat)(o:Int)(ns:List aA)(vs:List Val)(e:Exp),TQ 0 (bh p n o ns vs e)
 |0,_,_,_,_=>OE
 |n+1,o,ns,vs,e=>Rp (fun o ns vs e=>pw n o ns vs e) o ns vs e
structure GoodM (p:List Mod) (m:Ms):Prop where
 right:Cl m
 bud:mu m<=1000000
 fr:0<=m.frames/\m.frames<=60
 fuel:0<=m.fuel
 shape:∀(i:Nat)(x:Mod),p[i]? = some x->∃l,m.state[i]? = some l/\l.length=x.vars.length
theorem GoodM.eval{n:Nat}{o:Int}{ns:List aA}{vs:List Val}{e:Exp}{m s:Ms}{v:Val}(G:GoodM p m)(hs:pO ns vs)(h:bh p n o ns vs e m= .ok v s):GoodM p s/\Rv v/\s.fuel<=m.fuel:=by
 obtain⟨h1,h2,h3,h4⟩:=pw n o ns vs e m v s G.fuel h;obtain⟨g1,g2,g3⟩:=pn (p:=p) n o ns vs e hs m G.right;rw[h]at g1 g2;refine⟨⟨g1,by have:=G.bud;omega,by rw[h4];exact G.fr,h3,fun i x hx=>?_⟩,g3 v s h,h2⟩;obtain⟨l,k1,k2⟩:=G.shape i x hx;have:(m7 s)[i]? = (m7 m)[i]?:=by rw[show m7 s=m7 m from g2]
 simp only[m7,adK,k1,adv]at this
 grind
def GoodM.bool{n:Nat}{o:Int}{ns:List aA}{vs:List Val}{e:Exp}{m s:Ms}{b:Bool}(G:GoodM p m)(hs:pO ns vs)(h:boolX (bh p n o ns vs e) m= .ok b s):GoodM p s/\s.fuel<=m.fuel:=by
 unfold boolX X.bind at h;cases hr:bh p n o ns vs e m with
 |er c t=>grind
 | ok v t=>
  rw[hr]at h;simp only at h;split at h
  ·cases h;exact⟨(G.eval hs hr).1,(G.eval hs hr).2.2⟩
  ·cases h
def Iq{v:Val}(h:Rv v):v.names.length<=8:=by
 unfold Rv cI at h
 grind
theorem Jg:∀(d:Nat)(v:Val),cI d v=true->v.sz<=17*9 ^ d
 |0,v,h=>by simp[cI]at h
 | d + 1,v,h=>by
  have hp:1<=9 ^ d:=Nat.one_le_pow _ _ Vc;obtain⟨k,n,ns,vs⟩:=v;unfold cI at h;simp only[Val.sz];split at h
  ·simp only[acB,ada,acb,abX]at h
   grind [bw]
  ·simp only[acB,ada,acQ,acb,abX]at h;have h8:=of_decide_eq_true h.1.1.2;have hl:=h.1.1.1.2;have hv:=h.2;have key:∀l:List Val,(∀v∈l,cI d v=true)->bw l<=l.length*(17*9 ^ d):=by
    intro l
    induction l with
    |nil=>intro _;simp[bw]
    |cons v l ih=>
     intro h;have h1:=Jg d v (h v ad8)
     grind [bw,Nat.add_mul]
   have h3:=key vs hv;have h4:vs.length*(17*9 ^ d)<=8*(17*9 ^ d):=ac4 _ WD
   grind
theorem zl{v:Val}(h:Rv v):v.sz<=200000:=adi (Jg 4 v h) Vc
def TE(k:Int)(x:X α):Prop:=∀m e s,0<=m.fuel->x m= .er e s->mu s<=mu m+k/\0<=s.fuel
def JY{k:Int}{a:α}:TE k (.ok a):=fun m e s _ h=>by cases h
def OD{k:Int}{e:Int}(hk:0<=k):TE k (α:=α) (.er e):=fun m b s h0 h=>by cases h;exact⟨WD,h0⟩
def JX{j k:Int}{x:X α}(h:TE j x)(hk:j<=k):TE k x:=fun m a s h0 e=>by
 have:=h m a s h0 e
 exact⟨WD,this.2⟩
def gw{k:Int}{x:X α}{f:α->X β}(hx:TE k x)(tx:TQ 0 x)(hf:∀a,TE k (f a)):TE k (x.bind f):=by
 intro m b s h0 h;unfold X.bind at h;cases hr:x m with
 |er e t=>rw[hr]at h;cases h;exact hx m _ _ h0 hr
 |ok a t=>
  rw[hr]at h;obtain⟨h1,h2,h3,h4⟩:=tx m a t h0 hr
  have:=hf a t b s h3 h
  exact⟨WD,this.2⟩
def dh{k:Int}{c:Prop}[Decidable c]{x y:X α}(h1:TE k x)(h2:TE k y):TE k (if c then x else y):=by
 split
 ·exact h1
 ·exact h2
def Rm{k:Int}(hk:0<=k){r:X Val}(h:TE k r)(t:TQ 0 r):TE k (boolX r):=gw h t fun _=>dh JY (OD hk)
theorem DU{k:Int}{r:Exp->X Val}(h:∀e,TE k (r e))(t:∀e,TQ 0 (r e)):∀l,TE k (listX r l)
 |[]=>JY
 |e:: l=>gw (h e) (t e) fun _=>gw (DU h t l) (ru t l) fun _=>JY
def zI{a:Int}{f:Fun}(hr:∀o ns vs e,TE 0 (r o ns vs e)):TE 1 (cS p r a f l):=by
 intro m v s h0 h;rw[og]at h;have hm:mu (mD p a f l m)<=mu m+1:=by
  simp only[mu,mD];split
  ·simp;omega
  ·omega
 split at h
 ·unfold X.bind at h;cases hr':r a (f.params.map (·.1)) l f.body (mD p a f l m)with
  |er e t=>
   rw[hr']at h;cases h
   have:=hr _ _ _ _ (mD p a f l m) _ _ h0 hr'
   exact⟨WD,this.2⟩
  |ok b t=>
   rw[hr']at h;cases h
 ·cases h;exact⟨WD,h0⟩
def Rn(hr:∀o ns vs e,TE 0 (r o ns vs e))(tr:∀o ns vs e,TQ 0 (r o ns vs e))(o:Int)(ns:List aA)(vs:List Val)(e:Exp):TE 0 (nF p r o ns vs e):=by
 have tick:∀y:X Val,TE 1 y->TE 0 (ka y):=fun y hy m a s h0 h=>by
  unfold ka X.get at h;by_cases hf:m.fuel<=0
  ·simp only[hf,acK]at h;cases h;exact⟨WD,h0⟩
  ·simp only[hf,acI]at h;have h1:=hy { m with fuel:=m.fuel-1 } a s (by simp only;omega) h;simp only[mu]at h1 |-;exact⟨WD,h1.2⟩
 have H:=fun e=>JX (hr o ns vs e) (show (0:Int)<=1 by omega);have T:=fun e=>tr o ns vs e;have ok1:∀(α:Type)(a:α),TE 1 (.ok a):=fun _ _=>JY;have er1:∀(α:Type) e,TE 1 (α:=α) (.er e):=fun _ _=>OD WD;have B:=fun e=>Rm WD (H e) (T e);refine tick _ ?_;refine dh (er1 _ _) (dh (ok1 _ _) (dh (dh (ok1 _ _) (er1 _ _)) (dh ?_ (dh ?_ (dh ?_ (dh ?_ (dh ?_ (dh ?_ (dh ?_ (dh ?_ (dh ?_ (dh ?_ ?_))))))))))))
 ·split
  ·exact ok1 _ _
  ·exact er1 _ _
 ·refine gw (H _) (T _) fun a=>gw (H _) (T _) fun b=>?_;unfold pW;exact dh (dh (ok1 _ _) (er1 _ _)) (dh (dh (ok1 _ _) (dh (ok1 _ _) (dh (ok1 _ _) (ok1 _ _)))) (er1 _ _))
 ·exact gw (B _) (nH (T _)) fun a=>dh (ok1 _ _) (gw (B _) (nH (T _)) fun b=>ok1 _ _)
 ·exact gw (B _) (nH (T _)) fun a=>ok1 _ _
 ·exact gw (B _) (nH (T _)) fun a=>dh (H _) (H _)
 ·exact gw (H _) (T _) fun v=>JX (hr _ _ _ _) WD
 ·unfold iX;exact dh (dh (gw (DU H T _) (ru T _) fun vs=>dh (ok1 _ _) (er1 _ _)) (er1 _ _)) (er1 _ _)
 ·refine gw (H _) (T _) fun v=>?_;split
  ·exact dh (ok1 _ _) (er1 _ _)
  ·exact er1 _ _
 ·unfold pC;simp only;split
  ·exact er1 _ _
  ·exact dh (dh (gw (DU H T _) (ru T _) fun l=>zI hr) (er1 _ _)) (er1 _ _)
 ·unfold Cq;refine gw (H _) (T _) fun v=>dh (dh (fun m a s h0 h=>?_) (er1 _ _)) (er1 _ _);cases h
 ·unfold wP;refine dh (er1 _ _) ?_;simp only;refine dh (er1 _ _) (dh (gw (H _) (T _) fun v m a s h0 h=>?_) fun m a s h0 h=>?_)
  ·cases h
  ·cases h
theorem DT{p:List Mod}:∀(n:Nat)(o:Int)(ns:List aA)(vs:List Val)(e:Exp),TE 0 (bh p n o ns vs e)
 |0,_,_,_,_=>OD WD
 |n+1,o,ns,vs,e=>Rn (fun o ns vs e=>DT n o ns vs e) (fun o ns vs e=>pw n o ns vs e) o ns vs e
def GR(B:Nat)(m:Ms):Prop:=∀c∈m.calls,c.args.length<=B
def CQ(B:Nat)(x:X α)(Q:α->Prop):Prop:=∀m,GR B m->GR B (x m).st/\∀a s,x m= .ok a s->Q a
variable {B:Nat}
theorem I9{a:α}{Q:α->Prop}(h:Q a):CQ B (.ok a) Q:=fun m hm=>⟨hm,fun b s e=>by cases e;exact h⟩
theorem jJ{e:Int}{Q:α->Prop}:CQ B (.er e) Q:=fun m hm=>⟨hm,fun b s e=>by cases e⟩
theorem fV{x:X α}{f:α->X β}{Q:α->Prop}{R:β->Prop}(hx:CQ B x Q)(hf:∀a,Q a->CQ B (f a) R):CQ B (x.bind f) R:=by
 intro m hm;obtain⟨h1,h3⟩:=hx m hm;cases hr:x m with
 |er e s=>
  rw[hr]at h1;simp only[X.bind,hr];exact⟨h1,fun b s e=>by cases e⟩
 |ok a s=>
  rw[hr]at h1;obtain⟨g1,g3⟩:=hf a (h3 a s hr) s h1;simp only[X.bind,hr];exact⟨g1,g3⟩
theorem cX{c:Prop}[Decidable c]{x y:X α}{Q:α->Prop}(h1:c->CQ B x Q)(h2:¬c->CQ B y Q):CQ B (if c then x else y) Q:=by
 split
 ·exact h1 ‹_›
 ·exact h2 ‹_›
abbrev LI:α->Prop:=fun _=>True
theorem wT{r:X Val}(h:CQ B r LI):CQ B (boolX r) LI:=fV h fun _ _=>cX (fun _=>I9 trivial) (fun _=>jJ)
theorem CJ{r:Exp->X Val}(h:∀e,CQ B (r e) LI):∀l,CQ B (listX r l) fun vs=>vs.length=l.length
 |[]=>I9 rfl
 |e:: l=>fV (h e) fun v _=>fV (CJ h l) fun vs hvs=>I9 (by simp[hvs])
theorem EF{a:Int}{f:Fun}(hr:∀o ns vs e,CQ B (r o ns vs e) LI)(hl:l.length<=B):CQ B (cS p r a f l) LI:=by
 intro m hm;rw[og];split
 ·have hb:CQ B ((r a (f.params.map (·.1)) l f.body).bind fun v=>.upd (fun m=>{ m with frames:=m.frames-1 }) (.ok v)) LI:=
   fV (hr _ _ _ _) fun _ _ m hm=>⟨hm,fun a s e=>trivial⟩
  have hm':GR B (mD p a f l m):=by
   intro c hc;simp only[mD]at hc;split at hc
   ·rcases acZ.1 hc with h|h
    ·exact hm c h
    ·simp only[adk]at h;subst h;exact hl
   ·exact hm c hc
  exact hb _ hm'
 ·exact⟨hm,fun _ _ e=>by cases e⟩
theorem PL(hp:∀m∈p,∀f∈m.funcs,f.params.length<=B)(hr:∀o ns vs e,CQ B (r o ns vs e) LI)(o:Int)(ns:List aA)(vs:List Val)(e:Exp):CQ B (nF p r o ns vs e) LI:=by
 have tick:∀y:X Val,CQ B y LI->CQ B (ka y) LI:=fun y hy m hm=>by
  unfold ka X.get;by_cases h:m.fuel<=0
  ·simp only[h,acK];exact⟨hm,fun _ _ e=>by cases e⟩
  ·simp only[h,acI];exact hy { m with fuel:=m.fuel-1 } hm
 have H:=fun e=>hr o ns vs e;have ok1:∀(α:Type)(a:α),CQ B (.ok a) LI:=fun _ _=>I9 trivial;refine tick _ ?_;refine cX (fun _=>jJ) fun _=>cX (fun _=>ok1 _ _) fun _=>cX (fun _=>cX (fun _=>ok1 _ _) fun _=>jJ) fun _=>cX (fun _=>?_) fun _=>
  cX (fun _=>?_) fun _=>cX (fun _=>?_) fun _=>cX (fun _=>?_) fun _=>cX (fun _=>?_) fun _=>cX (fun _=>?_) fun _=>cX (fun _=>?_) fun _=>cX (fun _=>?_) fun _=>
  cX (fun _=>?_) fun _=>cX (fun _=>?_) fun _=>?_
 ·split
  ·exact ok1 _ _
  ·exact jJ
 ·refine fV (H _) fun a ha=>fV (H _) fun b hb=>?_;unfold pW;exact cX (fun _=>cX (fun _=>ok1 _ _) fun _=>jJ) fun _=>cX (fun _=>cX (fun _=>ok1 _ _) fun _=>cX (fun _=>ok1 _ _) fun _=>cX (fun _=>ok1 _ _) fun _=>ok1 _ _) fun _=>jJ
 ·exact fV (wT (H _)) fun a _=>cX (fun _=>ok1 _ _) fun _=>fV (wT (H _)) fun b _=>ok1 _ _
 ·exact fV (wT (H _)) fun a _=>ok1 _ _
 ·exact fV (wT (H _)) fun a _=>cX (fun _=>H _) fun _=>H _
 ·exact fV (H _) fun v hv=>hr _ _ _ _
 ·unfold iX;exact cX (fun h1=>cX (fun h2=>fV (CJ H _) fun vs hvs=>cX (fun h3=>ok1 _ _) fun _=>jJ) fun _=>jJ) fun _=>jJ
 ·refine fV (H _) fun v hv=>?_;split
  ·exact cX (fun _=>ok1 _ _) fun _=>jJ
  ·exact jJ
 ·unfold pC;simp only;split
  ·exact jJ
  ·rename_i f hf;obtain⟨h1,h2,h3⟩:=mL hf;refine cX (fun _=>cX (fun h4=>fV (CJ H _) fun l hl=>EF hr ?_) fun _=>jJ) fun _=>jJ;rw[acH h2]at h3
   have:=hp _ (List.getElem_mem h2) f h3
   omega
 ·unfold Cq;exact fV (H _) fun v hv=>cX (fun _=>cX (fun _ m hm=>⟨hm,fun a s e=>trivial⟩) fun _=>jJ) fun _=>jJ
 ·unfold wP;refine cX (fun _=>jJ) fun ho=>?_;simp only;exact cX (fun _=>jJ) fun hi=>cX (fun _=>fV (H _) fun v hv m hm=>⟨hm,fun a s e=>trivial⟩) fun _ m hm=>⟨hm,fun a s e=>trivial⟩
theorem I8{p:List Mod}(hp:∀m∈p,∀f∈m.funcs,f.params.length<=B):∀(n:Nat)(o:Int)(ns:List aA)(vs:List Val)(e:Exp),CQ B (bh p n o ns vs e) LI
 |0,_,_,_,_=>jJ
 |n+1,o,ns,vs,e=>PL hp (fun o ns vs e=>I8 hp n o ns vs e) o ns vs e
end Go.Av.Ap
namespace Go.Av.Ap
structure OutB (B n:Nat) (o:Out):Prop where
 deeds:o.deeds.length<=100002
 calls:o.calls.length<=100002
 args:∀c∈o.calls,c.args.length<=B
 state:o.state.length<=n
 vals:∀x∈o.state,x.values.length<=B
def ri(B n:Nat)(e:Int):OutB B n (xP e):=⟨acU _,acU _,fun c hc=>(by cases hc),acU _,fun c hc=>(by cases hc)⟩
def MZ{B:Nat}(p:List Mod)(st:List Vars)(module fn:aA)(args:List Val)(world:List Int)(fuel:Int)(hp:∀m∈p,m.vars.length<=B/\∀f∈m.funcs,f.params.length<=B):OutB B p.length (gY p st module fn args world fuel):=by
 by_cases h0:0<=fuel/\fuel<=100000
 ·rcases r8 p st module fn args with⟨e,he,h⟩|⟨a,f,hf,ha,hl,hargs,hv,hb,h⟩
  ·rw[h world fuel h0.1 h0.2];exact ri _ _ e
  ·rw [h world fuel h0.1 h0.2];obtain⟨b1,b2,b3⟩:=kF hb;have hfp:f.params.length<=B:=by
    rw[acH hl]at hf;exact (hp _ (List.getElem_mem hl)).2 f hf
   obtain⟨_,q2,_⟩:=vJ (p:=p) (a:=a) (n:=100000) hargs hv (bv world fuel (st.map (·.values))) ⟨fun l hl v hv=>by
    simp only[bv,adj]at hl;obtain⟨x,hx,rfl⟩:=hl;exact b2 x hx v hv,fun c hc=>by simp[bv]at hc⟩
   have hmu:mu (cS p (bh p 100000) a f args (bv world fuel (st.map (·.values)))).st<=fuel+1/\0<=fuel:=by
    refine⟨?_,h0.1⟩;have e0:mu (bv world fuel (st.map (·.values)))=fuel:=by simp[mu,bv]
    cases hr:cS p (bh p 100000) a f args (bv world fuel (st.map (·.values)))with
    |ok v s=>
     have:=(zK (fun o ns vs e=>pw 100000 o ns vs e) _ v s h0.1 hr).1
     rw[e0]at this;exact this
    |er e s=>
     have:=(zI (fun o ns vs e=>DT 100000 o ns vs e) _ e s h0.1 hr).1
     rw[e0]at this;exact this
   have hfu:0<=(cS p (bh p 100000) a f args (bv world fuel (st.map (·.values)))).st.fuel:=by
    cases hr:cS p (bh p 100000) a f args (bv world fuel (st.map (·.values)))with
    |ok v s=>exact (zK (fun o ns vs e=>pw 100000 o ns vs e) _ v s h0.1 hr).2.2.1
    |er e s=>exact (zI (fun o ns vs e=>DT 100000 o ns vs e) _ e s h0.1 hr).2
   have hc:=(EF (p:=p) (B:=B) (a:=a) (f:=f) (l:=args) (I8 (p:=p) (fun m hm=>(hp m hm).2) 100000) WD (bv world fuel (st.map (·.values))) (fun c hc=>by simp[bv]at hc)).1;generalize cS p (bh p 100000) a f args (bv world fuel (st.map (·.values)))=r at *;simp only[mu]at hmu;refine⟨by rw[qD];omega,by rw[kU];omega,by rw[kU];exact hc,?_,fun x hx=>?_⟩
   ·rw[qE,List.length_zipWith];simp;omega
   ·rw [qE]at hx
    have:=rM hx
    have hs:m7 r.st=p.map (fun m=>m.vars.length):=by
     rw[q2];refine adZ fun i=>?_;simp only[m7,bv,adK,Option.map_map];cases hi:st[i]? with
     | none=>
      have:p[i]? = none:=by
       rw[aeL]at hi |-;omega
      rw[this];rfl
     |some x=>
      have hlt:=(acJ.1 hi).1;have hpi:p[i]? = some (p[i]'(WD)):=acH _;rw[hpi]
      have:=(b3 i _ x hpi hi).2
      simp[this]
    have h1:x.values.length∈m7 r.st:=adj.2 ⟨_,this,rfl⟩;rw[hs]at h1;obtain⟨m,hm,he⟩:=adj.1 h1
    have:=(hp m hm).1
    omega
 ·unfold gY;split
  ·exact ri _ _ _
  ·rw[acL WD];exact ri _ _ _
def Q4{B:Nat}(p:List Mod)(module fn:aA)(args:List Val)(world:List Int)(fuel:Int)(hp:∀m∈p,m.vars.length<=B/\∀f∈m.funcs,f.params.length<=B):OutB B p.length (eI p module fn args world fuel):=by
 unfold eI;split
 ·exact ri _ _ _
 ·exact MZ _ _ _ _ _ _ _ hp
end Go.Av.Ap
namespace Go.Av
def Kn{p:Pg}(hO:ek p){fake:FuncId->List AV->M AV}(hf:∀f args,D5 (fake f args) (aa p f args)){n:Nat}{f:FuncId}{args:List AV}{h:Hp}{r:R AV}(hr:lD p fake (dV n) f args h=r)(hne:r≠.fail):aa p f args h=r:=by
 have a:=qU (p:=p) hO (call:=aa p) (calls:=fun m f=>if m=0 then fake f else aa p f) (fun f args x=>by
  refine⟨fun _=>⟨1,fun m hm=>?_⟩,fun m hne=>?_⟩
  ·(try dsimp only)
   rw[acE WD]
  ·(try dsimp only at hne |-)
   by_cases h0:m=0
   ·rw[acL h0]at hne |-;exact hf f args x hne
   ·rw[acE h0]) (r7 n) (r7 n) (fun _=>r7 n) f args h
 have b:=qU (p:=p) hO (call:=aa p) (calls:=fun _=>aa p) (fun f=>cB.const _) vR HF (fun n=>r7 n) f args h;have a1:=a.2 0
 (try dsimp only at a1)
 have e1:=a1 (by simp only[acK];rw[hr];exact hne);simp only[acK]at e1;have b1:=b.2 n
 (try dsimp only at b1)
 have e2:=b1 (by rw[<- e1,hr];exact hne);rw[s7 hO,<- e2,<- e1,hr]
mutual
def Ge:AV->AV->Bool
 |.bool a,b=>match b with|.bool c=>a== c|_=>false
 |.int k n,b=>match b with|.int l m=>decide (k=l)&&decide (n=m)|_=>false
 |.str s,b=>match b with|.str t=>decide (s=t)|_=>false
 |.agg l,b=>match b with|.agg m=>Dx l m|_=>false
 |.sl l,b=>match b with|.sl m=>Dx l m|_=>false
 |.any,_=>false|.nilp,_=>false|.nilf,_=>false|.nili,_=>false|.tup _,_=>false|.ip _,_=>false|.hp _ _,_=>false|.hs _ _ _ _ _,_=>false
 |.he,_=>false|.hn,_=>false|.fn _ _ _,_=>false|.iface _ _,_=>false|.mp _,_=>false|.nilm,_=>false|.nilb _,_=>false|.byt _ _,_=>false|.it _,_=>false
def Dx:List AV->List AV->Bool
 |[],m=>match m with|[]=>true|_:: _=>false
 |a:: l,m=>match m with|[]=>false|b:: m=>Ge a b&&Dx l m
end
mutual
theorem Q5:∀(a b:AV),Ge a b=true->a=b
 |.bool a,b,h=>by cases b<;>simp_all[Ge]
 |.int k n,b,h=>by cases b<;>simp_all[Ge]
 |.str s,b,h=>by cases b<;>simp_all[Ge]
 |.agg l,b,h=>by
  cases b<;>simp only[Ge,acA]at h;rw[xb _ _ h]
 |.sl l,b,h=>by
  cases b<;>simp only[Ge,acA]at h;rw[xb _ _ h]
 |.he,_,h|.any,_,h|.nilp,_,h|.nilf,_,h|.nili,_,h|.tup _,_,h|.ip _,_,h|.hp _ _,_,h|.hs _ _ _ _ _,_,h|.hn,_,h|.fn _ _ _,_,h|.iface _ _,_,h|.mp _,_,h|.nilm,_,h|.nilb _,_,h|.byt _ _,_,h|.it _,_,h=>by simp[Ge]at h
theorem xb:∀(l m:List AV),Dx l m=true->l=m
 |[],m,h=>by cases m<;>simp_all[Dx]
 | a:: l,m,h=>by
  cases m with
  |nil=>simp[Dx]at h
  |cons b m=>
   simp only[Dx,acB]at h;rw[Q5 _ _ h.1,xb _ _ h.2]
end
noncomputable def OC(p:Pg)(g:FuncId)(n:Nat):List (List AV×AV)->FuncId->List AV->M AV
 |[],f,args=>bif Nat.beq f g then gk else dQ p n f args
 |(a,r):: t,f,args=>bif Nat.beq f g&&Dx (eB ai args) a then ao r else OC p g n t f args
theorem JW{p:Pg}(hO:ek p)(g:FuncId){B:List AV->M AV}(hB:∀args,aa p g args=aF (B (eB ai args)))(n:Nat):∀(t:List (List AV×AV)),(∀x∈t,eB ai x.1=x.1/\aa p g x.1=ao x.2)->∀f args,D5 (OC p g n t f args) (aa p f args)
 |[],_,f,args=>by
  unfold OC;cases Nat.beq f g with
  |true=>exact fun x hne=>absurd rfl hne
  |false=>exact fun x hne=>(nZ hO f args x).2 n hne
 | (a,r):: t,ht,f,args=>by
  unfold OC;cases hb:Nat.beq f g&&Dx (eB ai args) a with
  | true=>
   simp only[acB]at hb;have h1:f=g:=Nat.eq_of_beq_eq_true hb.1;have h2:=xb _ _ hb.2;have h3:=ht (a,r) AI;have e:aa p f args=ao r:=by
    rw[<- h3.2,h1,hB args,hB a,h2,h3.1]
   intro x _;exact (ae5 e x).symm
  |false=>exact JW hO g hB n t (fun x hx=>ht x (by simp[hx])) f args
end Go.Av
