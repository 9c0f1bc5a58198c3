/- The abstract evaluator of the model and plain laws, part 4: its soundness holds for every program whose table of types is the evaluator's. No further condition. -/
import Derived.Test.YteemeakjlfnapaaGreatDoorLc
import Derived.ChangeReads
import Derived.ReadAgain
import Derived.Deep.Slices
import Derived.WideShapes
import Derived.SizedLaws
import Derived.Sort.AssemblyPlain
import Derived.Sort.MapsRangeIn
import Derived.Maps.OwnIn
import Derived.RangeFuncSeq
set_option linter.defProp false
set_option linter.unusedSimpArgs false
set_option linter.unusedVariables false
namespace Go.Av
open Go.RowKit
section
variable {H:Type} {enc:TypeId×Value->H} {P:Program} {w w':World}
theorem ie{base:Nat}{spare:Nat->Bool}{held:Bool}:∀ {ts:List TypeId} {vs:List Value} {ds:List (DataW H)} {ps:List MemPlace},DataW.TrodAll enc P w base spare held ts vs ds ps->(∀p∈ps,w.sameAt w' p)->DataW.TrodAll enc P w' base spare held ts vs ds ps
 |[],[],[],_,h,_=>h
 |_:: _,_:: _,_:: _,_,⟨p,q,⟨n,h1⟩,h2,e⟩,hs=>⟨p,q,⟨n,DataW.trod_carry n _ _ _ h1 (fun x hx=>hs x (by rw[e];exact Ga _ hx))⟩,ie h2 (fun x hx=>hs x (by rw[e];exact FY _ hx)),e⟩
theorem oI(hb:Below w.heap.size w w'){p:MemPlace}(hp:p.block<w.heap.size):w.sameAt w' p:=by
 cases p with
 |cell b off=>
  have:=hb.block b hp
  show w'.cell? ⟨b,off,none⟩=w.cell? ⟨b,off,none⟩;simp only[World.cell?,this]
 |map b=>exact hb.block b hp
theorem qO{T:TypeId->Prop}(K:Kids P T)(hz:∀t e,T t->P.underlying t=some (.slice e)->0<P.cellsOf e){ts:List TypeId}{vs:List Value}{ds:List (DataW H)}{ps:List MemPlace}(hT:∀t∈ts,T t)(h:DataW.TrodAll enc P w 0 (fun _=>true) true ts vs ds ps)(hlt:∀p∈ps,p.block<w.heap.size)(hb:Below w.heap.size w w')(sp:Nat->Bool)(hsp:∀p∈ps,sp p.block=true):DataW.TrodAll enc P w' 0 sp true ts vs ds ps:=
 (ie h fun p hp=>oI hb (hlt p hp)).respare K hz hT hsp
end
theorem sx{α:Type}(Q:Nat->α->Prop):∀n,(∀i,i<n->∃x,Q i x)->∃l:List α,l.length=n/\∀i x,l[i]? = some x->Q i x
 |0,_=>⟨[],rfl,fun i x h=>by simp at h⟩
 | n+1,h=>by
  obtain⟨l,h1,h2⟩:=sx Q n fun i hi=>h i (by omega);obtain⟨y,hy⟩:=h n (by omega);refine⟨l++[y],by simp[h1],fun i x hx=>?_⟩;by_cases hi:i<n
  ·rw[DN (by omega)]at hx;exact h2 i x hx
  ·rw[DY (by omega)]at hx;have hin:i-l.length=0:=by
    rcases Eh (i-l.length)with h|h
    ·exact h
    ·rw[DI (by simp;omega)]at hx;cases hx
   rw[hin]at hx;simp only[D9,Dw]at hx;subst hx;obtain rfl:i=n:=by omega
   exact hy
end Go.Av
namespace Go.Av
open Go.RowKit Go.WideShapes Go.ChangeShapes
section
variable {H:Type} (enc:TypeId×Value->H) (P:Program) (W:World)
def Rd{α:Type}(N:Nat)(t:TypeId)(cells:α->List AV)(Ok:α->Prop):Prop:=∀(base:Nat)(held:Bool)(n:Nat),n<N->∀(cs:List Value)(x:DataW H×List MemPlace),DataW.trod enc P W base (fun _=>true) held n t cs=some x->(∀k∈x.1.weights P t,k<=reachBytes)->∃a:α,aG (hM W) [] (cells a) cs/\Ok a
def wR{α:Type}(N:Nat)(tot:Nat)(o:Nat)(fs:List Field)(cells:α->List AV)(Ok:α->Prop):Prop:=∀(base:Nat)(held:Bool)(n:Nat),n<N->∀(cs:List Value)(xs:List (DataW H×List MemPlace)),cs.length=tot->
 xs.length=fs.length->(∀(i:Nat)(f:Field),fs[i]? = some f->DataW.trod enc P W base (fun _=>true) held n f.type ((cs.drop f.offset).take (P.cellsOf f.type))=xs[i]?)->(∀k∈DataW.weightsEach P (fs.map (·.type)) (xs.map (·.1)),k<=reachBytes)->∃a:α,aG (hM W) [] (cells a) (cs.drop o)/\Ok a
variable {enc P W} {α β:Type} {N:Nat} {t:TypeId}
theorem Rd.zero{cells:α->List AV}{Ok:α->Prop}:Rd enc P W 0 t cells Ok:=fun _ _ n hn=>absurd hn (by omega)
theorem Rd.le{cells:α->List AV}{Ok:α->Prop}(h:Rd enc P W N t cells Ok){M:Nat}(hm:M<=N):Rd enc P W M t cells Ok:=fun b hd n hn=>h b hd n (by omega)
theorem Rd.map{cells:α->List AV}{Ok:α->Prop}(h:Rd enc P W N t cells Ok)(g:α->β){cells':β->List AV}{Ok':β->Prop}(hc:∀a,cells' (g a)=cells a)(ho:∀a,Ok a->Ok' (g a)):Rd enc P W N t cells' Ok':=by
 intro b hd n hn cs x hx hw;obtain⟨a,h1,h2⟩:=h b hd n hn cs x hx hw;exact⟨g a,by rw[hc];exact h1,ho a h2⟩
theorem sI(ht:P.underlying t=some .bool):Rd enc P W N t (fun b:Bool=>[.bool b]) (fun _=>True):=by
 intro b hd n hn cs x hx hw;obtain⟨b,rfl,_⟩:=DataW.trod_bool ht hx;exact⟨b,by simp[aG,VR],trivial⟩
theorem oG{k:IntKind}(ht:P.underlying t=some (.int k)):Rd enc P W N t (fun n:Int=>[.int k n]) (fun n=>(Lit.int k n).wf=true):=by
 intro b hd n hn cs x hx hw;obtain⟨b,rfl,_,hwf⟩:=DataW.trod_int ht hx;exact⟨b,by simp[aG,VR],hwf⟩
theorem jO(ht:P.underlying t=some .string):Rd enc P W N t (fun s:List UInt8=>[.str s]) (fun s=>s.length<=reachBytes):=by
 intro b hd n hn cs x hx hw;obtain⟨s,rfl,rfl,_⟩:=DataW.trod_string ht hx;exact⟨s.data.toList,by simp[aG,VR],hw _ (by simp[DataW.weights])⟩
def yC(cells:α->List AV)(ev:α->AV)(sz:Nat):Prop:=∀(a:α)(S:ap)(β:List a8)(vs:List Value),aG S β (cells a) vs->vs.length=sz->∃v,VR S β (ev a) v/\v.cells.toList=vs
theorem ju{cells:α->List AV}{ev:α->AV}{sz:Nat}(he:∀a,ev a= .agg (cells a)):yC cells ev sz:=fun a S β vs h hl=>⟨.agg vs.toArray,by rw[he];simp only[VR];exact⟨vs,rfl,h⟩,by simp[Value.cells]⟩
theorem uV{ev:α->AV}(ho:∀a,aL (ev a)=true):yC (fun a=>[ev a]) ev 1:=fun a S β vs h hl=>by
 simp only[aG]at h;obtain⟨v,_,rfl,h,rfl⟩:=h;exact⟨v,h,by rw[(eR (ho a) h).1]⟩
theorem gS{e:TypeId}:∀ {l:List (DataW H)} {d:DataW H},d∈l->∀k∈d.weights P e,k∈DataW.weightsAll P e l
 |x:: l,d,hd,k,hk=>by
  simp only[DataW.weightsAll,Ed];rcases DX.1 hd with rfl|hd
  ·exact .inl hk
  ·exact .inr (gS hd k hk)
theorem je{e:TypeId}{cells:α->List AV}{Ok:α->Prop}(h:Rd enc P W N e cells Ok)(ht:P.underlying t=some (.slice e)){sz by_:Nat}(hsz:P.cellsOf e=sz)(h0:0<sz)(hby:P.bytesOf e=by_){ev:α->AV}(hev:yC cells ev sz):
  Rd enc P W N t (fun l:List α=>[.sl (l.map ev)]) (fun l=>l.length*by_<=reachBytes/\∀a∈l,Ok a):=by
 intro base hd n hn cs x hx hw;rcases DataW.trod_slice ht hx with⟨rfl,rfl⟩|⟨a,len,cap,elems,rest,m,rfl,rfl,rfl,hb,hle,hm,hlen,hel,hsp,_⟩
 ·exact⟨[],by simp only[aG,List.map_nil,VR];exact⟨_,_,rfl,⟨none,0,rfl,DD _,fun _=>rfl,fun q hq=>by cases hq⟩,rfl⟩,by simp,fun a ha=>by cases ha⟩
 obtain⟨hrl,hre⟩:=hsp rfl;rw[hsz]at hel hre;simp only[DataW.weights,ht,DX,Ed,hby]at hw;have hspot:0<cap->a.spot=none:=by
  intro hc;have:∃y,(W.cells? base (a.add 0) sz).bind (DataW.trod enc P W base (fun _=>true) hd m e)=some y:=by
   by_cases h1:0<len
   ·have:=hel 0 h1
    rw[DR (by omega)]at this;exact⟨_,by simpa using this⟩
   ·have:=hre 0 (by omega)
    rw[DR (by omega)]at this;obtain rfl:len=0:=by omega
    exact⟨_,by simpa using this⟩
  obtain⟨y,hy⟩:=this;obtain⟨cs,hcs,_⟩:=GC.1 hy;obtain⟨_,hl,hc⟩:=World.cells?_some hcs;have h2:=hc 0 h0;rw[DR (by omega)]at h2;have h3:=World.cell?_spot h2;have e:(a.add 0).add 0=a:=by unfold Addr.add;simp
  rwa [e]at h3
 have hx:∀i,i<len->∃y:α,(∃v,VR (hM W) [] (ev y) v/\v.cells.size=sz/\dL (hM W) a.block (a.off+i*sz) v.cells.toList)/\Ok y:=by
  intro i hi;have h1:=hel i hi;rw[DR (by omega)]at h1;obtain⟨cs,hcs,htr⟩:=GC.1 h1;obtain⟨y,hy,hok⟩:=h base hd m (by omega) cs _ htr (fun k hk=>hw k (.inr (.inl (gS (Ey.2 ⟨_,DV _,rfl⟩) k hk))));obtain⟨_,hl,hc⟩:=World.cells?_some hcs;obtain⟨v,hv,hvc⟩:=hev y _ _ cs hy hl;refine⟨y,⟨v,hv,by rw[<- En,hvc,hl],fun j u hj=>?_⟩,hok⟩;rw[hvc]at hj;have hjl:j<sz:=by
   rcases DU j cs.length with h|h
   ·omega
   ·rw[DI h]at hj;cases hj
  have h2:=hc j hjl;rw[hj]at h2;unfold hM;have hs:=hspot (by omega);have e:(a.add (i*sz)).add j=⟨a.block,a.off+i*sz+j,none⟩:=by
   obtain⟨b,o,s⟩:=a;simp only at hs;subst hs;rw[add_plain,add_plain]
  rw[<- e];exact h2
 obtain⟨l,hl1,hl2⟩:=sx (fun i y=>(∃v,VR (hM W) [] (ev y) v/\v.cells.size=sz/\dL (hM W) a.block (a.off+i*sz) v.cells.toList)/\Ok y) len hx;refine⟨l,?_,?_,fun y hy=>?_⟩
 ·simp only[aG,VR,D7];refine⟨_,_,rfl,⟨some a,cap,by rw[hl1],by omega,(fun e=>by cases e),fun q hq=>?_⟩,rfl⟩;cases hq;refine⟨hspot,sz,.of_get fun i e he=>?_⟩;rw[ED,EF]at he;obtain⟨y,hy,rfl⟩:=he;exact (hl2 i y hy).1
 ·have:=hw _ (.inl rfl)
  simp only[D7]at this;have h3:=DO by_ (show l.length<=elems.length+rest.length by omega);omega
 ·obtain⟨i,hi,e⟩:=List.getElem_of_mem hy;exact (hl2 i y (by rw[DR hi,e])).2
theorem fO{tot:Nat}:wR enc P W N tot tot [] (fun _:Unit=>[]) (fun _=>True):=fun base hd n hn cs xs hl _ _ _=>⟨(),by simp[aG,<- hl],trivial⟩
theorem aS{tot o k:Nat}{f:Field}{fs:List Field}{c1:α->List AV}{Ok1:α->Prop}{c2:β->List AV}{Ok2:β->Prop}(h1:Rd enc P W N f.type c1 Ok1)(ho:f.offset=o)(hk:P.cellsOf f.type=k)(h2:wR enc P W N tot (o+k) fs c2 Ok2):
  wR enc P W N tot o (f:: fs) (fun x:α×β=>c1 x.1++c2 x.2) (fun x=>Ok1 x.1/\Ok2 x.2):=by
 intro base hd n hn cs xs hl hx hf hw
 match xs,hx with
 |x:: xs,hx=>
  have hf0:=hf 0 f rfl;rw[ho,hk]at hf0;simp only[D8,DataW.weightsEach,Ed]at hw;obtain⟨a,ha,oa⟩:=h1 base hd n hn _ x hf0 fun k hk=>hw k (.inl hk);obtain⟨b,hb,ob⟩:=h2 base hd n hn cs xs hl (by simpa using hx) (fun i g hg=>by simpa using hf (i+1) g (by simpa using hg)) fun k hk=>hw k (.inr hk);refine⟨(a,b),?_,oa,ob⟩
  have:=ha.append hb
  rwa [<- FO,Fc]at this
theorem eS{fs:Array Field}{tot:Nat}{cells:α->List AV}{Ok:α->Prop}(ht:P.underlying t=some (.struct fs))(hc:P.cellsOf t=tot)(h:wR enc P W N tot 0 fs.toList cells Ok):Rd enc P W (N+1) t cells Ok:=by
 intro base hd n hn cs x hx hw;obtain⟨xs,m,rfl,rfl,hl,hxs,hf⟩:=DataW.trod_struct ht hx;simp only[DataW.weights,ht]at hw;obtain⟨a,h1,h2⟩:=h base hd m (by omega) cs xs (by rw[hl,hc]) (by simpa using hxs) (fun i f hi=>hf i f (by simpa using hi)) hw;exact⟨a,by simpa using h1,h2⟩
theorem Af{cells:α->List AV}{Ok:α->Prop}(h:∀N,Rd enc P W N t cells Ok){base:Nat}{held:Bool}{v:Value}{d:DataW H}{p:List MemPlace}(hd:DataW.Trod enc P W base (fun _=>true) held t v d p)(hw:∀k∈d.weights P t,k<=reachBytes):
  ∃a:α,aG (hM W) [] (cells a) v.cells.toList/\Ok a:=by
 obtain⟨n,hn⟩:=hd;exact h (n+1) base held n (by omega) _ _ hn hw
theorem qN{fs:Array Field}{r:Reach}{b0:Nat}{f:α->AV}{Ok:α->Prop}{cells:α->List AV}(h:∀N,Rd enc P W N t cells Ok)(hf:∀a,f a= .agg (cells a))(ht:P.underlying t=some (.struct fs)){base:Nat}{held:Bool}{v:Value}{d:DataW H}{p:List MemPlace}(hok:Value.okWide P W r b0 t v)(hd:DataW.Trod enc P W base (fun _=>true) held t v d p)(hw:∀k∈d.weights P t,k<=reachBytes):∃a:α,VR (hM W) [] (f a) v/\Ok a:=by
 obtain⟨cs,rfl,_⟩:=okWide_struct ht hok;obtain⟨a,h1,h2⟩:=Af h hd hw;refine⟨a,?_,h2⟩;rw[hf];simp only[VR];exact⟨cs.toList,by simp,h1⟩
theorem q8{ts:List TypeId}{ds:List (DataW H)}(h:(DataW.weightsEach P ts ds).all (· <=reachBytes)=true){j:Nat}{u:TypeId}{d:DataW H}(ht:ts[j]? = some u)(hd:ds[j]? = some d):∀k∈d.weights P u,k<=reachBytes:=fun k hk=>by
 have:=DL.1 h _ (DataW.weights_mem_each ht hd k hk)
 simpa using this
end
end Go.Av
namespace Go.Av.Ap
open Go Go.Av
def eF(e:Exp):Exp×Int:=
 if e.op=0\/e.op=1 then(.mk e.op e.n [] [] [] e.args,0)
 else if e.op=2\/e.op=17 then(.mk e.op 0 e.s [] [] e.args,0)
 else if e.op=18\/e.op=14 then(.mk e.op 0 e.s [] [] e.args,1)
 else if e.op=16 then(.mk e.op e.n [] [] [] e.args,1)
 else if e.op=10 then(.mk e.op 0 [] [] [] e.args,1)
 else if e.op=12 then(.mk e.op 0 e.s [] [] e.args,2)
 else if e.op=11 then(.mk e.op 0 [] [] [] e.args,3)
 else if e.op=13 then(.mk e.op 0 [] [] e.names e.args,e.names.length)
 else if e.op=15 then(.mk e.op 0 e.s e.m [] e.args,-1)
 else(.mk e.op 0 [] [] [] e.args,2)
def vV(l:List bT):Bool:=(l.all bw&&gw dy l)&&decide (l.length<=8)
def ey(e:Exp):Bool:=
 if e.op=0 then decide (0<=e.n)&&decide (e.n<=1099511627776)
 else if e.op=1 then e.n== 0||e.n== 1
 else if e.op=16 then((e.n== 1||e.n== 2)||e.n== 4)||e.n== 8
 else if e.op=2\/e.op=17\/e.op=18\/e.op=14\/e.op=12 then bw e.s
 else if e.op=15 then bw e.s&&(e.m== []||bw e.m)&&decide (e.args.length<=6)
 else if e.op=13 then vV e.names
 else true
def rP(e:Exp):Bool:=
 decide (0<=e.op)&&decide (e.op<19)&&(decide ((eF e).2<0)||((eF e).2== (e.args.length:Int)))&&((eF e).1.n== e.n)&&((eF e).1.s== e.s)&&((eF e).1.m== e.m)&&(((eF e).1.names.length:Int)== (e.names.length:Int))&&ey e
def cS:Nat->Exp->Bool
 |0,_=>false
 |d+1,e=>rP e&&e.args.all (cS d)
theorem qm(d:Nat)(e:Exp):cS (d+1) e=(rP e&&e.args.all (cS d)):=rfl
mutual
def De:Ty->Ty->Option Ty
 |.mk k fs,b=>if k=b.kind then some (.mk k (Ci fs b.fields))else none
def Ci:List (bT×Ty)->List eQ->List eQ
 |[],_=>[]
 |f:: fs,l=>(match Dd f l with|some x=>[x]|none=>[])++Ci fs l
def Dd:bT×Ty->List eQ->Option eQ
 |(n,t),l=>match gn (fun z=>z.1== n) l with
  |some z=>(match De t z.2 with|some u=>some (n,u)|none=>none)
  |none=>none
end
abbrev sK(e:Exp):Bool:=cS 12 e
def qf:List bT->List eQ->Bool
 |_,[]=>true
 |seen,f:: l=>!(seen.contains f.1)&&bw f.1&&cO f.2&&qf (seen++[f.1]) l
def dR(l:List eQ)(most:Int):Bool:=qf [] l&&decide ((l.length:Int)<=most)
def kv(f:Fun):Bool:=bw f.name&&dR f.params 6&&cO f.result&&sK f.body&&(eL f.effects 15== 0)
def ic:List bT->List Fun->Bool
 |_,[]=>true
 |seen,f:: l=>!(seen.contains f.name)&&kv f&&ic (seen++[f.name]) l
def vZ:List bT->List bT->Bool
 |_,[]=>true
 |seen,s:: l=>!(seen.contains s)&&bw s&&vZ (seen++[s]) l
def lY(m:Mod):Bool:=bw m.name&&decide (m.uses.length<=12)&&decide (m.funcs.length<=30)&&dR m.vars 8&&(m.init.all sK&&((m.init.length:Int)== m.vars.length))&&(m.moves||decide (m.old.length=0)) &&
 (dR m.old 8&&(m.forward.all sK&&((m.forward.length:Int)== (if m.moves=true then(m.vars.length:Int)else 0)))&&(m.back.all sK&&((m.back.length:Int)== m.old.length)))
def bO(m:Mod):Bool:=vZ [] m.uses&&(ic [] m.funcs&&lY m)
theorem i7:(l:List eQ)->(seen:List bT)->qf seen l=true->(∀f∈l,bw f.1=true/\cO f.2=true/\f.1 ∉ seen)/\(l.map (·.1)).Nodup
 |[],seen,_=>⟨fun f h=>(by cases h),List.nodup_nil⟩
 | f:: l,seen,h=>by
  simp only[qf,Dy,Er]at h;obtain⟨⟨⟨h1,h2⟩,h3⟩,h4⟩:=h;obtain⟨i1,i2⟩:=i7 l _ h4;have h1':f.1 ∉ seen:=fun hm=>by rw[FZ.2 hm]at h1;cases h1
  refine⟨fun g hg=>?_,?_⟩
  ·rcases DX.1 hg with rfl|hg
   ·exact⟨h2,h3,h1'⟩
   ·obtain⟨j1,j2,j3⟩:=i1 g hg;exact⟨j1,j2,fun hm=>j3 (Ga _ hm)⟩
  ·rw[D8,Fb];refine⟨fun hm=>?_,i2⟩;obtain⟨g,hg,e⟩:=Ey.1 hm;exact (i1 g hg).2.2 (FY _ (by rw[e];simp))
theorem jM:(l:List Fun)->(seen:List bT)->ic seen l=true->(∀f∈l,kv f=true/\f.name ∉ seen)/\(l.map (·.name)).Nodup
 |[],seen,_=>⟨fun f h=>(by cases h),List.nodup_nil⟩
 | f:: l,seen,h=>by
  simp only[ic,Dy,Er]at h;obtain⟨⟨h1,h2⟩,h4⟩:=h;obtain⟨i1,i2⟩:=jM l _ h4;have h1':f.name ∉ seen:=fun hm=>by rw[FZ.2 hm]at h1;cases h1
  refine⟨fun g hg=>?_,?_⟩
  ·rcases DX.1 hg with rfl|hg
   ·exact⟨h2,h1'⟩
   ·obtain⟨j1,j3⟩:=i1 g hg;exact⟨j1,fun hm=>j3 (Ga _ hm)⟩
  ·rw[D8,Fb];refine⟨fun hm=>?_,i2⟩;obtain⟨g,hg,e⟩:=Ey.1 hm;exact (i1 g hg).2 (FY _ (by rw[e];simp))
structure FunOk (f:Fun):Prop where
 name:bw f.name=true
 plen:f.params.length<=6
 pars:∀z∈f.params,cO z.2=true
 pnames:(f.params.map (·.1)).Nodup
 res:cO f.result=true
 body:cS 12 f.body=true
 eff:eL f.effects 15=0
def zI{f:Fun}(h:kv f=true):FunOk f:=by
 unfold kv dR at h;simp only[Dy,DK,EU]at h;obtain⟨⟨⟨⟨h1,h2,h3⟩,h4⟩,h5⟩,h6⟩:=h;obtain⟨i1,i2⟩:=i7 _ _ h2;exact⟨h1,by omega,fun z hz=>(i1 z hz).2.1,i2,h4,h5,h6⟩
structure ModOk (m:Mod):Prop where
 name:bw m.name=true
 ulen:m.uses.length<=12
 flen:m.funcs.length<=30
 fns:∀f∈m.funcs,FunOk f
 fnames:(m.funcs.map (·.name)).Nodup
 vlen:m.vars.length<=8
 vars:∀z∈m.vars,cO z.2=true
 vnames:(m.vars.map (·.1)).Nodup
 ilen:m.init.length=m.vars.length
 init:∀e∈m.init,cS 12 e=true
 olen:m.old.length<=8
 old:∀z∈m.old,cO z.2=true
 wlen:m.moves=true->m.forward.length=m.vars.length
 forw:∀e∈m.forward,cS 12 e=true
 blen:m.back.length=m.old.length
 back:∀e∈m.back,cS 12 e=true
def f4{m:Mod}(h:bO m=true):ModOk m:=by
 unfold bO lY dR at h;simp only[Dy,DK,EU,DL,EG]at h;obtain⟨h1,h2,⟨⟨⟨⟨⟨h3,h4⟩,h5⟩,h6,h7⟩,h8,h9⟩,h10⟩,⟨⟨h11,h12⟩,h13,h14⟩,h15,h16⟩:=h;obtain⟨f1,f2⟩:=jM _ _ h2;obtain⟨v1,v2⟩:=i7 _ _ h6;obtain⟨o1,_⟩:=i7 _ _ h11;exact⟨h3,h4,h5,fun f hf=>zI (f1 f hf).1,f2,by omega,fun z hz=>(v1 z hz).2.1,v2,by omega,h8,by omega,fun z hz=>(o1 z hz).2.1,fun hm=>by rw[DG hm]at h14;omega,h13,by omega,h15⟩
end Go.Av.Ap
namespace Go.Av.Ap
open Go Go.Av
open Go.RowKit Go.Sort Go.Proofs in
def yy(keys:List bT)(n i j:Nat):ltOf (wN keys n) i j=aC keys[i % n]! keys[j % n]!:=by
 unfold ltOf wN q3;cases h1:aC keys[i % n]! keys[j % n]! with
 |true=>simp
 |false=>cases h2:aC keys[j % n]! keys[i % n]! <;> simp
open Go.RowKit Go.Sort Go.Proofs in
def Cg(keys:List bT)(n:Nat):SWO (ltOf (wN keys n)):=by
 refine⟨fun x=>?_,fun x y z=>?_,fun x y z=>?_⟩
 ·rw[yy,db]
 ·rw[yy,yy,yy];exact cQ _ _ _
 ·rw[yy,yy,yy];intro h1 h2;cases h3:aC keys[x % n]! keys[z % n]! with
  |false=>rfl
  | true=>
   exfalso;by_cases e:keys[x % n]! = keys[y % n]!
   ·rw[e,h2]at h3;cases h3
   ·have:=cQ _ _ _ (dt _ _ h1 e) h3
    rw[this]at h2;cases h2
open Go.RowKit Go.Sort Go.Proofs in
def lV(keys:List bT):(dH keys).Perm (List.range keys.length)/\(dH keys).Pairwise fun i j=>aC keys[j % keys.length]! keys[i % keys.length]! = false:=by
 have h:=pdq_sorts (ltOf (wN keys keys.length)) (Cg keys keys.length) (Array.range keys.length) 0 (Array.range keys.length).size (Lib.bitLen (Array.range keys.length).size) true true (Ef _) (DD _) (Or.inl rfl);obtain⟨⟨hs,_,hp⟩,ho⟩:=h;unfold dH;generalize pdq (ltOf (wN keys keys.length)) (Array.range keys.length) 0 (Array.range keys.length).size (Lib.bitLen (Array.range keys.length).size) true true=d at hs hp ho;refine⟨?_,?_⟩
 ·rw[<- hs,Array.extract_size,hs,Array.extract_size]at hp;simpa using hp
 ·rw[List.pairwise_iff_getElem];intro i j hi hj hij;simp only[En]at hi hj
  have:=ho i j (Ef _) hij (by omega)
  rw[D2 d i hi,D2 d j hj,yy]at this;simp only[Array.getElem_toList];exact this
def cJ(l:List Sig):List Sig:=(dH (l.map (·.name))).map fun i=>l[i % l.length]!
def cP(l:List Sig):(cJ l).Perm l:=by
 have h:=(lV (l.map (·.name))).1;rw[D7]at h;have h2:=h.map fun i=>l[i % l.length]!;refine h2.trans ?_;have e:(List.range l.length).map (fun i=>l[i % l.length]!)=l:=by
  apply FU
  ·simp
  ·intro i h1 h2;simp only[FF,Gh];rw[FC h2,D2 l i h2]
 rw[e]
def oK(l:List Sig):(cJ l).Pairwise fun a b=>aC b.name a.name=false:=by
 have h:=(lV (l.map (·.name))).2;unfold cJ;rw[FQ];rw[D7]at h;refine h.imp fun{i j} h=>?_;have e:∀i:Nat,(l.map (·.name))[i % l.length]! = (l[i % l.length]!).name:=fun i=>by
  by_cases hl:i % l.length<l.length
  ·rw[D2 (l.map (·.name)) (i % l.length) (by rw[D7];exact hl),D2 l (i % l.length) hl,FF]
  ·have h0:l=[]:=by
    rcases Eh l.length with h|h
    ·exact DZ h
    ·exact absurd (GK i h) hl
   subst h0;rfl
 rw[e,e]at h;exact h
def dI(f:Fun):Sig:=⟨f.name,f.params.map (·.2),f.result,f.effects⟩
def bZ(l:List Fun):List Sig:=(l.filter (·.pub)).map dI
end Go.Av.Ap
namespace Go.Av.Ap
open Go Go.Av
def fq:Face:=⟨[],[]⟩
def mo(m:Mod):Face:=if bO m=true then⟨m.name,cJ (bZ m.funcs)⟩else fq
theorem qe:(l:List Fun)->(seen:List bT)->(∀f∈l,kv f=true/\f.name ∉ seen)->(l.map (·.name)).Nodup->ic seen l=true
 |[],_,_,_=>rfl
 | f:: l,seen,h,hn=>by
  rw[D8,Fb]at hn;obtain⟨h1,h2⟩:=h f Ew;have h3:seen.contains f.name=false:=by
   cases hc:seen.contains f.name with
   |false=>rfl
   |true=>exact absurd (FZ.1 hc) h2
  have ih:=qe l (seen++[f.name]) (fun g hg=>⟨(h g (EI _ hg)).1,fun hm=>by
   rcases Ed.1 hm with hm|hm
   ·exact (h g (EI _ hg)).2 hm
   ·rw[FL]at hm;exact hn.1 (by rw[<- hm];exact Fi (f:=(·.name)) hg)⟩) hn.2
  simp[ic,h1,h2,ih]
def l9{m:Mod}(h:bO m=true)(l:List Fun)(hl:l.length<=30)(hf:∀f∈l,kv f=true)(hn:(l.map (·.name)).Nodup):bO { m with funcs:=l } = true:=by
 unfold bO lY at h|-;simp only[Dy,DK]at h|-;obtain⟨h1,h2,⟨⟨⟨⟨⟨h3,h4⟩,h5⟩,h6⟩,h7⟩,h8⟩,h9⟩:=h;exact⟨h1,qe l [] (fun f h=>⟨hf f h,by simp⟩) hn,⟨⟨⟨⟨⟨h3,h4⟩,hl⟩,h6⟩,h7⟩,h8⟩,h9⟩
def bN(e:Exp)(f:Fun):Fun:={ f with body:=e }
def xS{e:Exp}(he:cS 12 e=true){f:Fun}(h:kv f=true):kv (bN e f)=true:=by
 unfold kv at h|-;simp only[Dy]at h|-;obtain⟨⟨⟨⟨h1,h2⟩,h3⟩,_⟩,h5⟩:=h;exact⟨⟨⟨⟨h1,h2⟩,h3⟩,he⟩,h5⟩
theorem wo(e:Exp)(f:Fun):dI (bN e f)=dI f:=rfl
theorem nA(e:Exp):(l:List Fun)->bZ (l.map (bN e))=bZ l
 |[]=>rfl
 |f:: l=>by
  have ih:=nA e l;unfold bZ at ih |-;rw[D8,List.filter_cons,List.filter_cons];have:(bN e f).pub=f.pub:=rfl;rw[this];cases f.pub
  ·exact ih
  ·simp only[Ep,D8,ih,wo]
def oA(l:List Fun):bZ l.reverse=(bZ l).reverse:=by
 unfold bZ;rw[List.filter_reverse,List.map_reverse]
def iA{l:List Fun}(hn:(l.map (·.name)).Nodup):((bZ l).map (·.name)).Nodup:=by
 have e:(bZ l).map (·.name)=(l.filter (·.pub)).map (·.name):=by
  unfold bZ;rw[Fy];rfl
 rw[e];exact hn.sublist ((List.filter_sublist (l:=l)).map _)
def vS{l:List Fun}{s:Sig}:s∈bZ l↔∃f∈l,f.pub=true/\dI f=s:=by
 unfold bZ;rw[Ey];constructor
 ·rintro⟨f,hf,rfl⟩;exact⟨f,(EW.1 hf).1,(EW.1 hf).2,rfl⟩
 ·rintro⟨f,hf,hp,rfl⟩;exact⟨f,EW.2 ⟨hf,hp⟩,rfl⟩
def gg{l:List Sig}(hn:(l.map (·.name)).Nodup):(cJ l).Pairwise fun a b=>aC a.name b.name=true:=by
 have h1:=oK l;have h2:((cJ l).map (·.name)).Nodup:=((cP l).map _).nodup_iff.2 hn;have h3:(cJ l).Pairwise fun a b=>a.name≠b.name:=by
  have:=h2
  unfold List.Nodup at this;rw[FQ]at this;exact this
 exact h1.imp₂ (fun a b x y=>dt _ _ x (GH y)) h3
theorem nG:(l l':List Sig)->(l.Pairwise fun a b=>aC a.name b.name=true)->(l'.Pairwise fun a b=>aC a.name b.name=true)->(∀x,x∈l↔x∈l')->l=l'
 |[],[],_,_,_=>rfl
 |[],y:: l',_,_,h=>by have:=(h y).2 Ew;cases this
 |x:: l,[],_,_,h=>by have:=(h x).1 Ew;cases this
 | x:: l,y:: l',h1,h2,h=>by
  obtain⟨a1,a2⟩:=FN.1 h1;obtain⟨b1,b2⟩:=FN.1 h2;have no:∀ {s:Sig},aC s.name s.name=true->False:=fun hs=>by rw[db]at hs;cases hs
  have e:x=y:=by
   rcases DX.1 ((h x).1 Ew)with e|e
   ·exact e
   ·rcases DX.1 ((h y).2 Ew)with e'|e'
    ·exact e'.symm
    ·exact absurd (cQ _ _ _ (b1 x e) (a1 y e')) fun h=>no h
  subst e;congr 1;refine nG l l' a2 b2 fun z=>⟨fun hz=>?_,fun hz=>?_⟩
  ·rcases DX.1 ((h z).1 (EI _ hz))with e|e
   ·exact absurd (a1 z hz) fun h=>no (by rw[e]at h;exact h)
   ·exact e
  ·rcases DX.1 ((h z).2 (EI _ hz))with e|e
   ·exact absurd (b1 z hz) fun h=>no (by rw[e]at h;exact h)
   ·exact e
def wv{l l':List Sig}(hp:∀x,x∈l↔x∈l')(hn:(l.map (·.name)).Nodup)(hn':(l'.map (·.name)).Nodup):cJ l=cJ l':=
 nG _ _ (gg hn) (gg hn') fun x=>by rw[(cP l).mem_iff,(cP l').mem_iff,hp]
theorem ia:(l:List Sig)->(l.Pairwise fun a b=>aC a.name b.name=true)->gw (fun a b:Sig=>aC a.name b.name) l=true
 |[],_=>rfl
 |[_],_=>rfl
 |x:: y:: l,h=>by
  obtain⟨a1,a2⟩:=FN.1 h;simp only[gw,Dy];exact⟨a1 y Ew,ia (y:: l) a2⟩
def tT{f:Fun}(F:FunOk f):eb (dI f)=true:=by
 unfold eb dI;simp only[Dy,DK,EU,DL,D7];refine⟨⟨⟨⟨F.name,F.plen⟩,F.eff⟩,F.res⟩,fun t ht=>?_⟩;obtain⟨z,hz,rfl⟩:=Ey.1 ht;exact F.pars z hz
def fL{m:Mod}(h:bO m=true):mo m=⟨m.name,cJ (bZ m.funcs)⟩:=DG h
def oq{m:Mod}{s:Sig}:s∈cJ (bZ m.funcs)↔∃f∈m.funcs,f.pub=true/\dI f=s:=by rw[(cP _).mem_iff,vS]
def xO{m:Mod}(h:bO m=true):g7 (mo m)=true:=by
 have M:=f4 h;rw[fL h];unfold g7;simp only[Dy,DK,DL];refine⟨⟨M.name,?_⟩,fun s hs=>?_,ia _ (gg (iA M.fnames))⟩
 ·rw[(cP _).length_eq];unfold bZ;rw[D7];exact EY (EQ _ _) M.flen
 ·obtain⟨f,hf,_,rfl⟩:=oq.1 hs;exact tT (M.fns f hf)
def of_same{m m':Mod}(h:bO m=true)(h':bO m'=true)(hn:m.name=m'.name)(hp:∀x,x∈bZ m.funcs↔x∈bZ m'.funcs):mo m=mo m':=by
 rw[fL h,fL h',hn,wv hp (iA (f4 h).fnames) (iA (f4 h').fnames)]
theorem pB{α:Type}{p:α->Bool}{x:α}:{l:List α} ->x∈l->p x=true->(∀y∈l,p y=true->y=x)->l.find? p=some x
 | y:: l,hx,hp,hu=>by
  by_cases hy:p y=true
  ·rw[List.find?_cons_of_pos hy,hu y Ew hy]
  ·rw[List.find?_cons_of_neg hy];rcases DX.1 hx with e|hx
   ·rw[e]at hp;exact absurd hp hy
   ·exact pB hx hp fun z hz=>hu z (EI _ hz)
theorem key_inj:{l:List Fun} ->(l.map (·.name)).Nodup->{f g:Fun} ->f∈l->g∈l->f.name=g.name->f=g
 | x:: l,hn,f,g,hf,hg,e=>by
  rw[D8,Fb]at hn;rcases DX.1 hf with a|a
  ·rcases DX.1 hg with b|b
   ·rw[a,b]
   ·exact absurd (by rw[<- a,e];exact Fi (f:=(·.name)) b) hn.1
  ·rcases DX.1 hg with b|b
   ·exact absurd (by rw[<- b,<- e];exact Fi (f:=(·.name)) a) hn.1
   ·exact key_inj hn.2 a b e
def vo{m:Mod}(h:bO m=true){f:Fun}(hf:f∈m.funcs):sf (mo m) f.name=if f.pub=true then some (dI f)else none:=by
 have M:=f4 h;have uniq:∀g∈m.funcs,g.name=f.name->g=f:=fun g hg e=>by
  exact key_inj M.fnames hg hf e
 rw[fL h];unfold sf;split
 ·rename_i hp;refine pB (oq.2 ⟨f,hf,hp,rfl⟩) (by simp[dI]) fun y hy hy'=>?_;obtain⟨g,hg,_,rfl⟩:=oq.1 hy;have e:g.name=f.name:=EU.1 hy';rw[uniq g hg e]
 ·rename_i hp;rw[Gi];intro y hy hy';obtain⟨g,hg,gp,rfl⟩:=oq.1 hy;have e:g.name=f.name:=EU.1 hy';rw[uniq g hg e]at gp;exact hp gp
def xN{m:Mod}(hm:m.Lim):(mo m).Lim:=by
 unfold mo;split
 ·rename_i hr;have hl:(cJ (bZ m.funcs)).length<=30:=by
   rw[(cP _).length_eq];unfold bZ;rw[D7];exact EY (EQ _ _) (f4 hr).flen
  refine⟨by show (cJ (bZ m.funcs)).length<=_;omega,fun s hs=>?_⟩;have hs':s∈bZ m.funcs:=(cP _).mem_iff.1 hs;unfold bZ at hs';obtain⟨f,hf,rfl⟩:=Ey.1 hs';have hf':=hm.fns f (EW.1 hf).1;refine⟨?_,fun t ht=>?_,hf'.result⟩
  ·show (f.params.map (·.2)).length<=_;rw[D7];exact hf'.params
  ·obtain⟨z,hz,rfl⟩:=Ey.1 ht;exact hf'.pty z hz
 ·exact⟨by decide,fun s hs=>by cases hs⟩
def qn{m:Mod}(h:bO m=true):∀f∈m.funcs,kv f=true:=fun f hf=>by
 unfold bO at h;simp only[Dy]at h;exact ((jM _ _ h.2.1).1 f hf).1
def rF{m:Mod}(h:bO m=true):bO { m with funcs:=m.funcs.reverse } = true/\mo { m with funcs:=m.funcs.reverse } = mo m:=by
 have M:=f4 h;have hr:bO { m with funcs:=m.funcs.reverse } = true:=l9 h _ (by simpa using M.flen) (fun f hf=>qn h f (Gx.1 hf)) (by
  rw[List.map_reverse];exact (List.reverse_perm _).nodup_iff.2 M.fnames)
 refine⟨hr,of_same hr h rfl fun x=>?_⟩;show x∈bZ m.funcs.reverse↔_;rw[oA,Gx]
def qh(l:List Fun):bZ (l.filter (·.pub))=bZ l:=by
 unfold bZ;rw[List.filter_filter];simp
def tO{m:Mod}(h:bO m=true){e:Exp}(he:cS 12 e=true):bO { m with funcs:=(m.funcs.filter (·.pub)).map (bN e) } = true/\mo { m with funcs:=(m.funcs.filter (·.pub)).map (bN e) } = mo m:=by
 have M:=f4 h;have hr:bO { m with funcs:=(m.funcs.filter (·.pub)).map (bN e) } = true:=l9 h _ (by
  rw[D7];exact EY (EQ _ _) M.flen) (fun f hf=>by
  obtain⟨g,hg,rfl⟩:=Ey.1 hf;exact xS he (qn h g (EW.1 hg).1)) (by
  rw[Fy];exact M.fnames.sublist ((List.filter_sublist (l:=m.funcs)).map _))
 refine⟨hr,of_same hr h rfl fun x=>?_⟩;show x∈bZ ((m.funcs.filter (·.pub)).map (bN e))↔_;rw[nA,qh]
def tN{m:Mod}(h:bO m=true){e:Exp}:(mo m).funcs.length=((m.funcs.filter (·.pub)).map (bN e)).length:=by
 rw[fL h];show (cJ (bZ m.funcs)).length=_;rw[(cP _).length_eq,D7];unfold bZ;rw[D7]
end Go.Av.Ap
namespace Go.Av.Ap
open Go Go.Av
abbrev wJ:=bT×bT
def qj(r:wJ):AV:=.agg [.str r.1,.str r.2]
def qk(l:List wJ):AV:=.sl (l.map qj)
def rJ(l:List (List wJ)):AV:=.sl (l.map qk)
@[simp] theorem yO(r:wJ):ab (qj r)=[.str r.1,.str r.2]:=rfl
@[simp] theorem BJ(r:wJ):AV.agg [.str r.1,.str r.2]=qj r:=rfl
@[simp] theorem vX(r:wJ):bH 2 (qj r)=true:=rfl
@[simp] theorem AJ(l:List wJ):bV 2 (l.map qj)=true:=cp vX l
@[simp] theorem zv(g:Nat->Nat->Nat->Nat->Bool->AV)(r:wJ):cl g (qj r)=qj r:=rfl
@[simp] theorem xn(g:Nat->Nat->Nat->Nat->Bool->AV)(l:List wJ):cl g (qk l)=qk l:=by simp[qk,cl,dc g qj (zv g)]
@[simp] theorem BA(g:Nat->Nat->Nat->Nat->Bool->AV)(l:List (List wJ)):cl g (rJ l)=rJ l:=by simp[rJ,cl,dc g qk (xn g)]
section
variable {V:Type}
end
end Go.Av.Ap
namespace Go.Av.Ap
open Go Go.Av
mutual
def zU:Exp->List Exp
 |.mk o n s m ns es=>.mk o n s m ns es:: sF es
def sF:List Exp->List Exp
 |[]=>[]
 |e:: es=>zU e++sF es
end
end Go.Av.Ap
namespace Go.Av
open Go
section
variable {F:Fence} {n:Nat} {P:Program} {w w':World} {ops:Array Oper} {rest:List Oper} {o:Oper} {a:Act} {Q:Exit->Act->World->Prop} {v:Value}
end
end Go.Av
namespace Go.Av.Ap
open Go Go.Av
def Bo{T:TT}{t e:Nat}{ti ei:TI}(ht:T t=some ti)(hk:ti.kind= .slice e)(he:T e=some ei){x:AV}(hx:bH ei.size x=true)(hb:0<ei.bytes)(hs:0<ei.size)(hc:ei.bytes<=140737488355328)(h:Hp):
  appH T t false .hn (.sl [x]) h= .ok (.hs h.length 0 1 ei.size ei.agg) (h++[ab x]):=by
 have:bV ei.size [x]=true:=by simp[bV,hx]
 simp[appH,ht,hk,he,eJ,this,hb,hs,gR,hc]
def Bp{T:TT}{t e:Nat}{ti ei:TI}(ht:T t=some ti)(hk:ti.kind= .slice e)(he:T e=some ei){x:AV}(hx:bH ei.size x=true)(hb:0<ei.bytes)(hs:0<ei.size){h:Hp}{q n:Nat}{cs:List AV}(h0:h[q]? = some cs)(hok:cs.all aL=true)(hl:cs.length=n*ei.size)(hn:0<n)(hc:(n+1)*ei.bytes<=140737488355328):appH T t false (.hs q 0 n ei.size ei.agg) (.sl [x]) h= .ok (.hs h.length 0 (n+1) ei.size ei.agg) ((h.set q [])++[cs++ab x]):=by
 have h1:bV ei.size [x]=true:=by simp[bV,hx]
 have h2:List.all cs aL=true:=hok;have h3:0<n*ei.size:=Fp hn hs;have h4:cs.take (n*ei.size)=cs:=by rw[<- hl];exact Gs
 simp only[appH,ht,hk,he,eJ,h1,hb,hs,gR,h0,h2,hl,EN,Gk,Dx,FE,List.length_singleton,List.isEmpty_cons,DF,Ft,List.flatMap_nil,Gb,h3,h4,DD];rw[EO hc];simp
end Go.Av.Ap
