/- The abstract evaluator of the model and plain laws, part 4: its soundness holds for every program whose table of types is the evaluator's. No further condition. -/
import Derived.Test.YteemeakjlfnapaaGreatDoorLc
import Derived.Deep.Slices
import Derived.WideShapes
import Derived.SizedLaws
import Derived.Sort.AssemblyPlain
import Derived.Sort.MapsRangeIn
import Derived.Maps.OwnIn
import Derived.RangeFuncSeq
set_option linter.defProp false
set_option linter.unusedSimpArgs false
set_option linter.unusedVariables false
namespace Go.Av
open Go.RowKit Go.WideShapes Go.ChangeShapes
section
variable {H:Type} (enc:TypeId×Value->H) (P:Program) (W:World)
def Rd{α:Type}(N:Nat)(t:TypeId)(cells:α->List AV)(Ok:α->Prop):Prop:=∀(base:Nat)(held:Bool)(n:Nat),n<N->∀(cs:List Value)(x:DataW H×List MemPlace),DataW.trod enc P W base (fun _=>true) held n t cs=some x->(∀k∈x.1.weights P t,k<=reachBytes)->∃a:α,aX (kC W) [] (cells a) cs/\Ok a
def zi{α:Type}(N:Nat)(tot:Nat)(o:Nat)(fs:List Field)(cells:α->List AV)(Ok:α->Prop):Prop:=∀(base:Nat)(held:Bool)(n:Nat),n<N->∀(cs:List Value)(xs:List (DataW H×List MemPlace)),cs.length=tot->
 xs.length=fs.length->(∀(i:Nat)(f:Field),fs[i]? = some f->DataW.trod enc P W base (fun _=>true) held n f.type ((cs.drop f.offset).take (P.cellsOf f.type))=xs[i]?)->(∀k∈DataW.weightsEach P (fs.map (·.type)) (xs.map (·.1)),k<=reachBytes)->∃a:α,aX (kC W) [] (cells a) (cs.drop o)/\Ok a
variable {enc P W} {α β:Type} {N:Nat} {t:TypeId}
theorem Rd.zero{cells:α->List AV}{Ok:α->Prop}:Rd enc P W 0 t cells Ok:=fun _ _ n hn=>absurd hn (by omega)
theorem Rd.le{cells:α->List AV}{Ok:α->Prop}(h:Rd enc P W N t cells Ok){M:Nat}(hm:M<=N):Rd enc P W M t cells Ok:=fun b hd n hn=>h b hd n (by omega)
theorem Rd.map{cells:α->List AV}{Ok:α->Prop}(h:Rd enc P W N t cells Ok)(g:α->β){cells':β->List AV}{Ok':β->Prop}(hc:∀a,cells' (g a)=cells a)(ho:∀a,Ok a->Ok' (g a)):Rd enc P W N t cells' Ok':=by
 intro b hd n hn cs x hx hw;obtain⟨a,h1,h2⟩:=h b hd n hn cs x hx hw;exact⟨g a,by rw[hc];exact h1,ho a h2⟩
theorem ut(ht:P.underlying t=some .bool):Rd enc P W N t (fun b:Bool=>[.bool b]) (fun _=>True):=by
 intro b hd n hn cs x hx hw;obtain⟨b,rfl,_⟩:=DataW.trod_bool ht hx;exact⟨b,by simp[aX,VR],trivial⟩
theorem nr{k:IntKind}(ht:P.underlying t=some (.int k)):Rd enc P W N t (fun n:Int=>[.int k n]) (fun n=>(Lit.int k n).wf=true):=by
 intro b hd n hn cs x hx hw;obtain⟨b,rfl,_,hwf⟩:=DataW.trod_int ht hx;exact⟨b,by simp[aX,VR],hwf⟩
theorem iK(ht:P.underlying t=some .string):Rd enc P W N t (fun s:List UInt8=>[.str s]) (fun s=>s.length<=reachBytes):=by
 intro b hd n hn cs x hx hw;obtain⟨s,rfl,rfl,_⟩:=DataW.trod_string ht hx;exact⟨s.data.toList,by simp[aX,VR],hw _ (by simp[DataW.weights])⟩
def Bj(cells:α->List AV)(ev:α->AV)(sz:Nat):Prop:=∀(a:α)(S:ax)(β:List bo)(vs:List Value),aX S β (cells a) vs->vs.length=sz->∃v,VR S β (ev a) v/\v.cells.toList=vs
theorem gl{cells:α->List AV}{ev:α->AV}{sz:Nat}(he:∀a,ev a= .agg (cells a)):Bj cells ev sz:=fun a S β vs h hl=>⟨.agg vs.toArray,by rw[he];simp only[VR];exact⟨vs,rfl,h⟩,by simp[Value.cells]⟩
theorem xJ{ev:α->AV}(ho:∀a,bd (ev a)=true):Bj (fun a=>[ev a]) ev 1:=fun a S β vs h hl=>by
 simp only[aX]at h;obtain⟨v,_,rfl,h,rfl⟩:=h;exact⟨v,h,by rw[(gu (ho a) h).1]⟩
theorem iN{e:TypeId}:∀ {l:List (DataW H)} {d:DataW H},d∈l->∀k∈d.weights P e,k∈DataW.weightsAll P e l
 |x:: l,d,hd,k,hk=>by
  simp only[DataW.weightsAll,Hf];rcases Ha.1 hd with rfl|hd
  ·exact .inl hk
  ·exact .inr (iN hd k hk)
theorem gw{e:TypeId}{cells:α->List AV}{Ok:α->Prop}(h:Rd enc P W N e cells Ok)(ht:P.underlying t=some (.slice e)){sz by_:Nat}(hsz:P.cellsOf e=sz)(h0:0<sz)(hby:P.bytesOf e=by_){ev:α->AV}(hev:Bj cells ev sz):
  Rd enc P W N t (fun l:List α=>[.sl (l.map ev)]) (fun l=>l.length*by_<=reachBytes/\∀a∈l,Ok a):=by
 intro base hd n hn cs x hx hw;rcases DataW.trod_slice ht hx with⟨rfl,rfl⟩|⟨a,len,cap,elems,rest,m,rfl,rfl,rfl,hb,hle,hm,hlen,hel,hsp,_⟩
 ·exact⟨[],by simp only[aX,List.map_nil,VR];exact⟨_,_,rfl,⟨none,0,rfl,GL _,fun _=>rfl,fun q hq=>by cases hq⟩,rfl⟩,by simp,fun a ha=>by cases ha⟩
 obtain⟨hrl,hre⟩:=hsp rfl;rw[hsz]at hel hre;simp only[DataW.weights,ht,Ha,Hf,hby]at hw;have hspot:0<cap->a.spot=none:=by
  intro hc;have:∃y,(W.cells? base (a.add 0) sz).bind (DataW.trod enc P W base (fun _=>true) hd m e)=some y:=by
   by_cases h1:0<len
   ·have:=hel 0 h1
    rw[G6 (by omega)]at this;exact⟨_,by simpa using this⟩
   ·have:=hre 0 (by omega)
    rw[G6 (by omega)]at this;obtain rfl:len=0:=by omega
    exact⟨_,by simpa using this⟩
  obtain⟨y,hy⟩:=this;obtain⟨cs,hcs,_⟩:=Jy.1 hy;obtain⟨_,hl,hc⟩:=World.cells?_some hcs;have h2:=hc 0 h0;rw[G6 (by omega)]at h2;have h3:=World.cell?_spot h2;have e:(a.add 0).add 0=a:=by unfold Addr.add;simp
  rwa [e]at h3
 have hx:∀i,i<len->∃y:α,(∃v,VR (kC W) [] (ev y) v/\v.cells.size=sz/\ef (kC W) a.block (a.off+i*sz) v.cells.toList)/\Ok y:=by
  intro i hi;have h1:=hel i hi;rw[G6 (by omega)]at h1;obtain⟨cs,hcs,htr⟩:=Jy.1 h1;obtain⟨y,hy,hok⟩:=h base hd m (by omega) cs _ htr (fun k hk=>hw k (.inr (.inl (iN (HP.2 ⟨_,GQ _,rfl⟩) k hk))));obtain⟨_,hl,hc⟩:=World.cells?_some hcs;obtain⟨v,hv,hvc⟩:=hev y _ _ cs hy hl;refine⟨y,⟨v,hv,by rw[<- HG,hvc,hl],fun j u hj=>?_⟩,hok⟩;rw[hvc]at hj;have hjl:j<sz:=by
   rcases G7 j cs.length with h|h
   ·omega
   ·rw[GV h]at hj;cases hj
  have h2:=hc j hjl;rw[hj]at h2;unfold kC;have hs:=hspot (by omega);have e:(a.add (i*sz)).add j=⟨a.block,a.off+i*sz+j,none⟩:=by
   obtain⟨b,o,s⟩:=a;simp only at hs;subst hs;rw[add_plain,add_plain]
  rw[<- e];exact h2
 obtain⟨l,hl1,hl2⟩:=ue (fun i y=>(∃v,VR (kC W) [] (ev y) v/\v.cells.size=sz/\ef (kC W) a.block (a.off+i*sz) v.cells.toList)/\Ok y) len hx;refine⟨l,?_,?_,fun y hy=>?_⟩
 ·simp only[aX,VR,HQ];refine⟨_,_,rfl,⟨some a,cap,by rw[hl1],by omega,(fun e=>by cases e),fun q hq=>?_⟩,rfl⟩;cases hq;refine⟨hspot,sz,.of_get fun i e he=>?_⟩;rw[HL,HD]at he;obtain⟨y,hy,rfl⟩:=he;exact (hl2 i y hy).1
 ·have:=hw _ (.inl rfl)
  simp only[HQ]at this;have h3:=G0 by_ (show l.length<=elems.length+rest.length by omega);omega
 ·obtain⟨i,hi,e⟩:=List.getElem_of_mem hy;exact (hl2 i y (by rw[G6 hi,e])).2
theorem fg{tot:Nat}:zi enc P W N tot tot [] (fun _:Unit=>[]) (fun _=>True):=fun base hd n hn cs xs hl _ _ _=>⟨(),by simp[aX,<- hl],trivial⟩
theorem aP{tot o k:Nat}{f:Field}{fs:List Field}{c1:α->List AV}{Ok1:α->Prop}{c2:β->List AV}{Ok2:β->Prop}(h1:Rd enc P W N f.type c1 Ok1)(ho:f.offset=o)(hk:P.cellsOf f.type=k)(h2:zi enc P W N tot (o+k) fs c2 Ok2):
  zi enc P W N tot o (f:: fs) (fun x:α×β=>c1 x.1++c2 x.2) (fun x=>Ok1 x.1/\Ok2 x.2):=by
 intro base hd n hn cs xs hl hx hf hw
 match xs,hx with
 |x:: xs,hx=>
  have hf0:=hf 0 f rfl;rw[ho,hk]at hf0;simp only[HA,DataW.weightsEach,Hf]at hw;obtain⟨a,ha,oa⟩:=h1 base hd n hn _ x hf0 fun k hk=>hw k (.inl hk);obtain⟨b,hb,ob⟩:=h2 base hd n hn cs xs hl (by simpa using hx) (fun i g hg=>by simpa using hf (i+1) g (by simpa using hg)) fun k hk=>hw k (.inr hk);refine⟨(a,b),?_,oa,ob⟩
  have:=ha.append hb
  rwa [<- Jd,ID]at this
theorem dZ{fs:Array Field}{tot:Nat}{cells:α->List AV}{Ok:α->Prop}(ht:P.underlying t=some (.struct fs))(hc:P.cellsOf t=tot)(h:zi enc P W N tot 0 fs.toList cells Ok):Rd enc P W (N+1) t cells Ok:=by
 intro base hd n hn cs x hx hw;obtain⟨xs,m,rfl,rfl,hl,hxs,hf⟩:=DataW.trod_struct ht hx;simp only[DataW.weights,ht]at hw;obtain⟨a,h1,h2⟩:=h base hd m (by omega) cs xs (by rw[hl,hc]) (by simpa using hxs) (fun i f hi=>hf i f (by simpa using hi)) hw;exact⟨a,by simpa using h1,h2⟩
theorem CL{cells:α->List AV}{Ok:α->Prop}(h:∀N,Rd enc P W N t cells Ok){base:Nat}{held:Bool}{v:Value}{d:DataW H}{p:List MemPlace}(hd:DataW.Trod enc P W base (fun _=>true) held t v d p)(hw:∀k∈d.weights P t,k<=reachBytes):
  ∃a:α,aX (kC W) [] (cells a) v.cells.toList/\Ok a:=by
 obtain⟨n,hn⟩:=hd;exact h (n+1) base held n (by omega) _ _ hn hw
theorem jk{fs:Array Field}{r:Reach}{b0:Nat}{f:α->AV}{Ok:α->Prop}{cells:α->List AV}(h:∀N,Rd enc P W N t cells Ok)(hf:∀a,f a= .agg (cells a))(ht:P.underlying t=some (.struct fs)){base:Nat}{held:Bool}{v:Value}{d:DataW H}{p:List MemPlace}(hok:Value.okWide P W r b0 t v)(hd:DataW.Trod enc P W base (fun _=>true) held t v d p)(hw:∀k∈d.weights P t,k<=reachBytes):∃a:α,VR (kC W) [] (f a) v/\Ok a:=by
 obtain⟨cs,rfl,_⟩:=okWide_struct ht hok;obtain⟨a,h1,h2⟩:=CL h hd hw;refine⟨a,?_,h2⟩;rw[hf];simp only[VR];exact⟨cs.toList,by simp,h1⟩
theorem jr{ts:List TypeId}{ds:List (DataW H)}(h:(DataW.weightsEach P ts ds).all (· <=reachBytes)=true){j:Nat}{u:TypeId}{d:DataW H}(ht:ts[j]? = some u)(hd:ds[j]? = some d):∀k∈d.weights P u,k<=reachBytes:=fun k hk=>by
 have:=GT.1 h _ (DataW.weights_mem_each ht hd k hk)
 simpa using this
end
end Go.Av
namespace Go.Av.Ap
open Go Go.Av
def eg(e:Exp):Exp×Int:=
 if e.op=0\/e.op=1 then(.mk e.op e.n [] [] [] e.args,0)
 else if e.op=2\/e.op=17 then(.mk e.op 0 e.s [] [] e.args,0)
 else if e.op=18\/e.op=14 then(.mk e.op 0 e.s [] [] e.args,1)
 else if e.op=16 then(.mk e.op e.n [] [] [] e.args,1)
 else if e.op=10 then(.mk e.op 0 [] [] [] e.args,1)
 else if e.op=12 then(.mk e.op 0 e.s [] [] e.args,2)
 else if e.op=11 then(.mk e.op 0 [] [] [] e.args,3)
 else if e.op=13 then(.mk e.op 0 [] [] e.names e.args,e.names.length)
 else if e.op=15 then(.mk e.op 0 e.s e.m [] e.args,-1)
 else(.mk e.op 0 [] [] [] e.args,2)
def qc(l:List bA):Bool:=(l.all bX&&gD dm l)&&decide (l.length<=8)
def dY(e:Exp):Bool:=
 if e.op=0 then decide (0<=e.n)&&decide (e.n<=1099511627776)
 else if e.op=1 then e.n== 0||e.n== 1
 else if e.op=16 then((e.n== 1||e.n== 2)||e.n== 4)||e.n== 8
 else if e.op=2\/e.op=17\/e.op=18\/e.op=14\/e.op=12 then bX e.s
 else if e.op=15 then bX e.s&&(e.m== []||bX e.m)&&decide (e.args.length<=6)
 else if e.op=13 then qc e.names
 else true
def iL(e:Exp):Bool:=
 decide (0<=e.op)&&decide (e.op<19)&&(decide ((eg e).2<0)||((eg e).2== (e.args.length:Int)))&&((eg e).1.n== e.n)&&((eg e).1.s== e.s)&&((eg e).1.m== e.m)&&(((eg e).1.names.length:Int)== (e.names.length:Int))&&dY e
def cm:Nat->Exp->Bool
 |0,_=>false
 |d+1,e=>iL e&&e.args.all (cm d)
theorem f8(d:Nat)(e:Exp):cm (d+1) e=(iL e&&e.args.all (cm d)):=rfl
def l6(a b:Int):Int:=IntKind.i64.wrap (BitVec.ofInt 64 a ||| BitVec.ofInt 64 b).toNat
mutual
def nL:Ty->Ty->Option Ty
 |.mk k fs,b=>if k=b.kind then some (.mk k (fW fs b.fields))else none
def fW:List (bA×Ty)->List br->List br
 |[],_=>[]
 |f:: fs,l=>(match y6 f l with|some x=>[x]|none=>[])++fW fs l
def y6:bA×Ty->List br->Option br
 |(n,t),l=>match aN (fun z=>z.1== n) l with
  |some z=>(match nL t z.2 with|some u=>some (n,u)|none=>none)
  |none=>none
end
def f9(k:Int)(l:List Ty):Bool:=l.all fun t=>t.kind== k
def bO(e:Exp)(l:List Ty):Option Ty:=
 if e.op=3\/e.op=4\/e.op=5\/e.op=16 then(if f9 0 l=true then some (.mk 0 [])else none)
 else if e.op=1 then some (.mk 1 [])
 else if e.op=6 then(if f9 0 l=true then some (.mk 1 [])else none)
 else if e.op=7 then(if(f9 0 l||f9 1 l)=true then some (.mk 1 [])else none)
 else if e.op=8\/e.op=9\/e.op=10 then(if f9 1 l=true then some (.mk 1 [])else none)
 else if e.op=11 then(match nL l[1]! l[2]! with|some t=>if l[0]!.kind=1 then some t else none|none=>none)
 else if e.op=13 then some (.mk 2 (e.names.zip l))
 else if e.op=14 then(match aN (fun z=>z.1== e.s) l[0]!.fields with|some z=>some z.2|none=>none)
 else some (.mk 0 [])
inductive Tr (α:Type) where
 |ok (a:α) (n:Int)
 |er (e n:Int)
abbrev dv(α:Type):=Int->Tr α
def dv.ok{α:Type}(a:α):dv α:=fun n=>.ok a n
def dv.er{α:Type}(e:Int):dv α:=fun n=>.er e n
def dv.bind{α β:Type}(x:dv α)(f:α->dv β):dv β:=fun n=>match x n with
 |.ok a n'=>f a n'
 |.er e n'=>.er e n'
structure Tcx where
 vars:List br
 funcs:List Fun
 uses:List bA
 faces:bA->Option Face
def ct(c:Tcx)(e:Exp):Option (List Ty×Ty×Int):=
 if e.m=[]then(match c.funcs.find? fun f=>f.name== e.s with
  |some f=>some (f.params.map (·.2),f.result,f.effects)
  |none=>none)
 else match c.faces e.m with
  |none=>none
  |some f=>match f.funcs.find? (fun s=>s.name== e.s)with
   |none=>none
   |some s=>if e.m∈c.uses then some (s.params,s.result,s.effects)else none
def cR(r:Exp->dv Ty):List Exp->dv (List Ty)
 |[]=>.ok []
 |e:: es=>.bind (r e) fun t=>.bind (cR r es) fun ts=>.ok (t:: ts)
def cH(c:Tcx)(r:List br->Exp->dv Ty)(ls:List br)(e:Exp):dv Ty:=
 if e.op=2 then(match aN (fun z=>z.1== e.s) ls with|some z=>.ok z.2|none=>.er 12)
 else if e.op=12 then .bind (r ls e.args[0]!) fun t=>r (ls++[(e.s,t)]) e.args[1]!
 else if e.op=17\/e.op=18 then(match aN (fun z=>z.1== e.s) c.vars with
  |none=>.er 12
  |some z=>if e.op=18 then .bind (r ls e.args[0]!) fun u=>if aJ u z.2=true then .ok z.2 else .er 13 else .ok z.2)
 else if e.op=15 then(match ct c e with
  |none=>.er 12
  |some s=>if s.1.length=e.args.length then .bind (cR (r ls) e.args) fun l=>if cg aJ l s.1=true then fun n=>.ok s.2.1 (l6 n s.2.2)else .er 13 else .er 13)
 else .bind (cR (r ls) e.args) fun l n=>match bO e l with
  |some t=>.ok t (if e.op=16 then l6 n e.n else n)
  |none=>.er 13 (if e.op=16 then l6 n e.n else n)
def bi(c:Tcx):Nat->List br->Exp->dv Ty
 |0=>fun _ _=>.er 16
 |d+1=>cH c (bi c d)
def Ao:Tcx:=⟨[],[],[],fun _=>none⟩
def iJ(ls:List br)(e:Exp)(want:Ty):Int:=match bi Ao 12 ls e 0 with
 |.er b _=>b
 |.ok t n=>if n≠0 then 14 else if aJ t want=true then 0 else 13
def bq:List (bA×Int)->bA×Int
 |[]=>([],0)
 |x:: l=>if x.2=0 then bq l else x
def ew(ls:List br)(vs:List br)(es:List Exp):List (bA×Int):=(vs.zip es).map fun x=>(x.1.1,iJ ls x.2 x.1.2)
def iB(m:Mod):bA×Int:=bq (ew [] m.vars m.init++if m.moves=true then ew m.old m.vars m.forward++ew m.vars m.old m.back else[])
def vo(c:Tcx)(f:Fun):Int:=match bi c 12 f.params f.body 0 with
 |.er b _=>b
 |.ok t n=>if aJ t f.result=true then(if cp n f.effects=0 then 0 else 14)else 13
def eI(f:Face):Bool:=f.funcs.all fun s=>a8 s.result&&s.params.all a8
def vW{α:Type}(x:dv α):Prop:=∀n b n',x n= .er b n'->b≠0
def rL{α:Type}(a:α):vW (.ok a):=fun n b n' h=>by cases h
def nf{α:Type}{e:Int}(h:e≠0):vW (α:=α) (.er e):=fun n b n' h'=>by cases h';exact h
def iV{α β:Type}{x:dv α}{f:α->dv β}(hx:vW x)(hf:∀a,vW (f a)):vW (.bind x f):=fun n b n' h=>by
 unfold dv.bind at h;split at h
 ·exact hf _ _ _ _ h
 ·rename_i e' m hm;cases h;exact hx _ _ _ hm
def iC{α:Type}{c:Prop}[Decidable c]{x y:dv α}(h1:vW x)(h2:vW y):vW (if c then x else y):=by
 split
 ·exact h1
 ·exact h2
theorem ke{r:Exp->dv Ty}(h:∀e,vW (r e)):∀l,vW (cR r l)
 |[]=>rL _
 |e:: l=>iV (h e) fun _=>iV (ke h l) fun _=>rL _
theorem fw(c:Tcx):∀(d:Nat)(ls:List br)(e:Exp),vW (bi c d ls e)
 |0,_,_=>nf (by decide)
 | d+1,ls,e=>by
  have H:=fw c d;show vW (cH c (bi c d) ls e);unfold cH;refine iC ?_ (iC ?_ (iC ?_ (iC ?_ ?_)))
  ·split
   ·exact rL _
   ·exact nf (by decide)
  ·exact iV (H _ _) fun _=>H _ _
  ·split
   ·exact nf (by decide)
   ·exact iC (iV (H _ _) fun _=>iC (rL _) (nf (by decide))) (rL _)
  ·split
   ·exact nf (by decide)
   ·exact iC (iV (ke (H _) _) fun _=>iC (fun n b n' h=>by cases h) (nf (by decide))) (nf (by decide))
  ·refine iV (ke (H _) _) fun l n b n' h=>?_;split at h
   ·cases h
   ·cases h;decide
def nC{c:Tcx}{r:List br->Exp->dv Ty}{ls:List br}{e:Exp}(h:e.op=12):cH c r ls e= .bind (r ls e.args[0]!) fun t=>r (ls++[(e.s,t)]) e.args[1]!:=by
 unfold cH;rw[if_neg (by omega),GM h]
def nD{c:Tcx}{r:List br->Exp->dv Ty}{ls:List br}{e:Exp}(h:e.op=2):cH c r ls e=(match aN (fun z=>z.1== e.s) ls with|some z=>.ok z.2|none=>.er 12):=by
 unfold cH;rw[GM h]
theorem nB{c:Tcx}{r:List br->Exp->dv Ty}{ls:List br}{e:Exp}(h:e.op=17\/e.op=18):cH c r ls e=(match aN (fun z=>z.1== e.s) c.vars with
  |none=>.er 12
  |some z=>if e.op=18 then .bind (r ls e.args[0]!) fun u=>if aJ u z.2=true then .ok z.2 else .er 13 else .ok z.2):=by
 unfold cH;rw[if_neg (by omega),if_neg (by omega),GM h]
theorem lS{c:Tcx}{r:List br->Exp->dv Ty}{ls:List br}{e:Exp}(h:e.op=15):cH c r ls e=(match ct c e with
  |none=>.er 12
  |some s=>if s.1.length=e.args.length then .bind (cR (r ls) e.args) fun l=>if cg aJ l s.1=true then fun n=>.ok s.2.1 (l6 n s.2.2)else .er 13 else .er 13):=by
 unfold cH;rw[if_neg (by omega),if_neg (by omega),if_neg (by omega),GM h]
def lQ(e:Exp)(l:List Ty):dv Ty:=fun n=>match bO e l with
 |some t=>.ok t (if e.op=16 then l6 n e.n else n)
 |none=>.er 13 (if e.op=16 then l6 n e.n else n)
def gY{e:Exp}{l:List Ty}{t:Ty}(h:bO e l=some t)(n:Int):lQ e l n= .ok t (if e.op=16 then l6 n e.n else n):=by
 unfold lQ;rw[h]
def jG{e:Exp}{l:List Ty}(h:bO e l=none)(n:Int):lQ e l n= .er 13 (if e.op=16 then l6 n e.n else n):=by
 unfold lQ;rw[h]
def lT{c:Tcx}{r:List br->Exp->dv Ty}{ls:List br}{e:Exp}(h1:¬e.op=2)(h2:¬e.op=12)(h3:¬(e.op=17\/e.op=18))(h4:¬e.op=15):cH c r ls e= .bind (cR (r ls) e.args) (lQ e):=by
 unfold cH;rw[if_neg h1,if_neg h2,if_neg h3,if_neg h4];rfl
abbrev uw(e:Exp):Bool:=cm 12 e
def rP:List bA->List br->Bool
 |_,[]=>true
 |seen,f:: l=>!(seen.contains f.1)&&bX f.1&&a8 f.2&&rP (seen++[f.1]) l
def ey(l:List br)(most:Int):Bool:=rP [] l&&decide ((l.length:Int)<=most)
def vl(f:Fun):Bool:=bX f.name&&ey f.params 6&&a8 f.result&&uw f.body&&(cp f.effects 15== 0)
def lL:List bA->List Fun->Bool
 |_,[]=>true
 |seen,f:: l=>!(seen.contains f.name)&&vl f&&lL (seen++[f.name]) l
def yz:List bA->List bA->Bool
 |_,[]=>true
 |seen,s:: l=>!(seen.contains s)&&bX s&&yz (seen++[s]) l
def pd(m:Mod):Bool:=bX m.name&&decide (m.uses.length<=12)&&decide (m.funcs.length<=30)&&ey m.vars 8&&(m.init.all uw&&((m.init.length:Int)== m.vars.length))&&(m.moves||decide (m.old.length=0)) &&
 (ey m.old 8&&(m.forward.all uw&&((m.forward.length:Int)== (if m.moves=true then(m.vars.length:Int)else 0)))&&(m.back.all uw&&((m.back.length:Int)== m.old.length)))
def jH(m:Mod):Bool:=yz [] m.uses&&(lL [] m.funcs&&pd m)
theorem kg:(l:List br)->(seen:List bA)->rP seen l=true->(∀f∈l,bX f.1=true/\a8 f.2=true/\f.1 ∉ seen)/\(l.map (·.1)).Nodup
 |[],seen,_=>⟨fun f h=>(by cases h),List.nodup_nil⟩
 | f:: l,seen,h=>by
  simp only[rP,GJ,Hw]at h;obtain⟨⟨⟨h1,h2⟩,h3⟩,h4⟩:=h;obtain⟨i1,i2⟩:=kg l _ h4;have h1':f.1 ∉ seen:=fun hm=>by rw[IH.2 hm]at h1;cases h1
  refine⟨fun g hg=>?_,?_⟩
  ·rcases Ha.1 hg with rfl|hg
   ·exact⟨h2,h3,h1'⟩
   ·obtain⟨j1,j2,j3⟩:=i1 g hg;exact⟨j1,j2,fun hm=>j3 (IJ _ hm)⟩
  ·rw[HA,IY];refine⟨fun hm=>?_,i2⟩;obtain⟨g,hg,e⟩:=HP.1 hm;exact (i1 g hg).2.2 (IG _ (by rw[e];simp))
theorem o9:(l:List Fun)->(seen:List bA)->lL seen l=true->(∀f∈l,vl f=true/\f.name ∉ seen)/\(l.map (·.name)).Nodup
 |[],seen,_=>⟨fun f h=>(by cases h),List.nodup_nil⟩
 | f:: l,seen,h=>by
  simp only[lL,GJ,Hw]at h;obtain⟨⟨h1,h2⟩,h4⟩:=h;obtain⟨i1,i2⟩:=o9 l _ h4;have h1':f.name ∉ seen:=fun hm=>by rw[IH.2 hm]at h1;cases h1
  refine⟨fun g hg=>?_,?_⟩
  ·rcases Ha.1 hg with rfl|hg
   ·exact⟨h2,h1'⟩
   ·obtain⟨j1,j3⟩:=i1 g hg;exact⟨j1,fun hm=>j3 (IJ _ hm)⟩
  ·rw[HA,IY];refine⟨fun hm=>?_,i2⟩;obtain⟨g,hg,e⟩:=HP.1 hm;exact (i1 g hg).2 (IG _ (by rw[e];simp))
structure FunOk (f:Fun):Prop where
 name:bX f.name=true
 plen:f.params.length<=6
 pars:∀z∈f.params,a8 z.2=true
 pnames:(f.params.map (·.1)).Nodup
 res:a8 f.result=true
 body:cm 12 f.body=true
 eff:cp f.effects 15=0
def Ch{f:Fun}(h:vl f=true):FunOk f:=by
 unfold vl ey at h;simp only[GJ,GX,Hj]at h;obtain⟨⟨⟨⟨h1,h2,h3⟩,h4⟩,h5⟩,h6⟩:=h;obtain⟨i1,i2⟩:=kg _ _ h2;exact⟨h1,by omega,fun z hz=>(i1 z hz).2.1,i2,h4,h5,h6⟩
structure ModOk (m:Mod):Prop where
 name:bX m.name=true
 ulen:m.uses.length<=12
 flen:m.funcs.length<=30
 fns:∀f∈m.funcs,FunOk f
 fnames:(m.funcs.map (·.name)).Nodup
 vlen:m.vars.length<=8
 vars:∀z∈m.vars,a8 z.2=true
 vnames:(m.vars.map (·.1)).Nodup
 ilen:m.init.length=m.vars.length
 init:∀e∈m.init,cm 12 e=true
 olen:m.old.length<=8
 old:∀z∈m.old,a8 z.2=true
 wlen:m.moves=true->m.forward.length=m.vars.length
 forw:∀e∈m.forward,cm 12 e=true
 blen:m.back.length=m.old.length
 back:∀e∈m.back,cm 12 e=true
def yu{m:Mod}(h:jH m=true):ModOk m:=by
 unfold jH pd ey at h;simp only[GJ,GX,Hj,GT,HO]at h;obtain⟨h1,h2,⟨⟨⟨⟨⟨h3,h4⟩,h5⟩,h6,h7⟩,h8,h9⟩,h10⟩,⟨⟨h11,h12⟩,h13,h14⟩,h15,h16⟩:=h;obtain⟨f1,f2⟩:=o9 _ _ h2;obtain⟨v1,v2⟩:=kg _ _ h6;obtain⟨o1,_⟩:=kg _ _ h11;exact⟨h3,h4,h5,fun f hf=>Ch (f1 f hf).1,f2,by omega,fun z hz=>(v1 z hz).2.1,v2,by omega,h8,by omega,fun z hz=>(o1 z hz).2.1,fun hm=>by rw[GM hm]at h14;omega,h13,by omega,h15⟩
def jV:Face:=⟨[],[]⟩
def dj(m:Mod)(fs:List Face):Tcx:=⟨m.vars,m.funcs,m.uses,fun s=>fs.find? fun f=>f.module== s⟩
def cD:List Face->List Face->List Face
 |acc,[]=>acc
 |acc,f:: fs=>cD (if(acc.find? fun g=>g.module== f.module).isSome=true then acc else acc++[f]) fs
def vX(m:Mod)(fs:List Face):List (bA×Int):=m.funcs.map fun f=>(f.name,vo (dj m fs) f)
def jf(m:Mod)(fs:List Face):List (bA×Int):=m.uses.map fun u=>(u,if(fs.find? fun f=>f.module== u).isNone||u== m.name then 12 else 0)
def gI(m:Mod)(fs:List Face):bA×Int:=if(fs.all eI&&jH m)=true then bq (jf m (cD [] fs)++iB m:: vX m (cD [] fs))else([],1)
theorem tX:{l:List (bA×Int)} ->(bq l).2=0->∀x∈l,x.2=0
 |[],_,x,hx=>by cases hx
 | y:: l,h,x,hx=>by
  unfold bq at h;split at h
  ·rename_i hy;rcases Ha.1 hx with rfl|hx
   ·exact hy
   ·exact tX h x hx
  ·rename_i hy;exact absurd h hy
end Go.Av.Ap
namespace Go.Av.Ap
open Go Go.Av
abbrev zc:=bA×bA
def rT(r:zc):AV:=.agg [.str r.1,.str r.2]
def rU(l:List zc):AV:=.sl (l.map rT)
def tA(l:List (List zc)):AV:=.sl (l.map rU)
@[simp] theorem Bu(r:zc):ab (rT r)=[.str r.1,.str r.2]:=rfl
@[simp] theorem Eg(r:zc):AV.agg [.str r.1,.str r.2]=rT r:=rfl
@[simp] theorem yx(r:zc):ck 2 (rT r)=true:=rfl
@[simp] theorem C9(l:List zc):cB 2 (l.map rT)=true:=cS yx l
@[simp] theorem B8(g:Nat->Nat->Nat->Nat->Bool->AV)(r:zc):cl g (rT r)=rT r:=rfl
@[simp] theorem zH(g:Nat->Nat->Nat->Nat->Bool->AV)(l:List zc):cl g (rU l)=rU l:=by simp[rU,cl,dA g rT (B8 g)]
@[simp] theorem DZ(g:Nat->Nat->Nat->Nat->Bool->AV)(l:List (List zc)):cl g (tA l)=tA l:=by simp[tA,cl,dA g rU (zH g)]
section
variable {V:Type}
end
end Go.Av.Ap
namespace Go.Av.Ap
open Go Go.Av
mutual
def Cu:Exp->List Exp
 |.mk o n s m ns es=>.mk o n s m ns es:: um es
def um:List Exp->List Exp
 |[]=>[]
 |e:: es=>Cu e++um es
end
end Go.Av.Ap
namespace Go.Av
open Go
section
variable {F:Fence} {n:Nat} {P:Program} {w w':World} {ops:Array Oper} {rest:List Oper} {o:Oper} {a:Act} {Q:Exit->Act->World->Prop} {v:Value}
end
end Go.Av
namespace Go.Av.Ap
open Go Go.Av
def jw{T:TT}{t:Nat}{ti:TI}(ht:T t=some ti)(ha:ti.agg=false){h:Hp}{l k:Nat}{cs:List AV}{v:AV}(h0:h[l]? = some cs)(h1:cs[k]? = some v):bn T t (.hp l k) h= .ok v h:=by
 simp[bn,ht,h0,ha,h1]
def yn{T:TT}{t:Nat}{ti:TI}(ht:T t=some ti)(ha:ti.agg=true){h:Hp}{l k:Nat}{cs:List AV}(h0:h[l]? = some cs)(hle:k+ti.size<=cs.length):bn T t (.hp l k) h= .ok (.agg ((cs.drop k).take ti.size)) h:=by
 simp[bn,ht,h0,ha,hle]
def qp{T:TT}{t:Nat}{ti:TI}(ht:T t=some ti){h:Hp}{l k:Nat}{cs:List AV}{v:AV}(h0:h[l]? = some cs)(hv:ck ti.size v=true)(hle:k+ti.size<=cs.length)(hp:0<ti.size):
  bH T t (.hp l k) v h= .ok (.tup []) (h.set l (setCells cs k (ab v))):=by
 simp[bH,ht,h0,hv,hle,hp]
def DL{T:TT}{t e:Nat}{ti ei:TI}(ht:T t=some ti)(hk:ti.kind= .slice e)(he:T e=some ei){x:AV}(hx:ck ei.size x=true)(hb:0<ei.bytes)(hs:0<ei.size)(hc:ei.bytes<=140737488355328)(h:Hp):
  appH T t false .hn (.sl [x]) h= .ok (.hs h.length 0 1 ei.size ei.agg) (h++[ab x]):=by
 have:cB ei.size [x]=true:=by simp[cB,hx]
 simp[appH,ht,hk,he,fu,this,hb,hs,iM,hc]
def DN{T:TT}{t e:Nat}{ti ei:TI}(ht:T t=some ti)(hk:ti.kind= .slice e)(he:T e=some ei){x:AV}(hx:ck ei.size x=true)(hb:0<ei.bytes)(hs:0<ei.size){h:Hp}{q n:Nat}{cs:List AV}(h0:h[q]? = some cs)(hok:cs.all bd=true)(hl:cs.length=n*ei.size)(hn:0<n)(hc:(n+1)*ei.bytes<=140737488355328):appH T t false (.hs q 0 n ei.size ei.agg) (.sl [x]) h= .ok (.hs h.length 0 (n+1) ei.size ei.agg) ((h.set q [])++[cs++ab x]):=by
 have h1:cB ei.size [x]=true:=by simp[cB,hx]
 have h2:List.all cs bd=true:=hok;have h3:0<n*ei.size:=IQ hn hs;have h4:cs.take (n*ei.size)=cs:=by rw[<- hl];exact List.take_length
 simp only[appH,ht,hk,he,fu,h1,hb,hs,iM,h0,h2,hl,HB,IP,GK,Ik,List.length_singleton,List.isEmpty_cons,GO,Iv,List.flatMap_nil,JE,h3,h4,GL];rw[IC hc];simp
end Go.Av.Ap
namespace Go.Av.Ap
def asc:List bA->Bool
 |[]=>true
 |[_]=>true
 |x:: y:: l=>aV x y&&asc (y:: l)
def lh(b:Bool):Val:=.mk 1 (if b then 1 else 0) [] []
def vK(n:Int):Val:=.mk 0 n [] []
def Ez(p:List Mod)(s:bA):Int:=bW (fun m=>m.name== s) p 0
def Ei(l:List Fun)(s:bA):Int:=bW (fun f=>f.name== s) l 0
def Ef(l:List br)(s:bA):Int:=bW (fun f=>f.1== s) l 0
structure Ms where
 fuel:Int
 frames:Int
 world:List Int
 deeds:List Deed
 calls:List Call
 state:List (List Val)
inductive Rs (α:Type) where
 |ok (a:α) (m:Ms)
 |er (e:Int) (m:Ms)
def X(α:Type):=Ms->Rs α
def X.ok{α:Type}(a:α):X α:=fun m=>.ok a m
def X.er{α:Type}(e:Int):X α:=fun m=>.er e m
def X.bind{α β:Type}(x:X α)(f:α->X β):X β:=fun m=>match x m with
 |.ok a m'=>f a m'
 |.er e m'=>.er e m'
def X.upd{α:Type}(f:Ms->Ms)(x:X α):X α:=fun m=>x (f m)
def X.get{α:Type}(f:Ms->X α):X α:=fun m=>f m m
def DO(op:Int):Int:=
 if op=0\/op=1\/op=2\/op=17 then 0
 else if op=10\/op=14\/op=16\/op=18 then 1
 else if op=3\/op=4\/op=5\/op=6\/op=7\/op=8\/op=9\/op=12 then 2
 else if op=11 then 3
 else if op=13\/op=15 then -1
 else -2
def Bd:List bA->List Val->bA->Option Val
 |n:: ns,v:: vs,s=>match Bd ns vs s with
  |some x=>some x
  |none=>if n=s then some v else none
 |_,_,_=>none
def s7:List bA->List Val->bA->Option Val
 |n:: ns,v:: vs,s=>if n=s then some v else s7 ns vs s
 |_,_,_=>none
def wr(n:Int):Int:=IntKind.i64.wrap n
def DU(op:Int)(a b:Val):X Val:=
 if op=7 then(if a.kind=b.kind/\a.kind≠2 then .ok (lh (a.n== b.n))else .er 13)
 else if a.kind=0/\b.kind=0 then
  (if op=3 then .ok (vK (wr (a.n+b.n)))else if op=4 then .ok (vK (wr (a.n-b.n)))else if op=5 then .ok (vK (wr (a.n*b.n)))else .ok (lh (decide (a.n<b.n))))
 else .er 13
mutual
def yj:Val->Nat
 |.mk _ _ _ vs=>ud vs+1
def ud:List Val->Nat
 |[]=>0
 |v:: vs=>max (yj v) (ud vs)
end
abbrev Ev:=Int->List bA->List Val->Exp->X Val
def boolX(r:X Val):X Bool:=r.bind fun v=>if v.kind=1 then .ok (v.n== 1)else .er 13
def listX(r:Exp->X Val):List Exp->X (List Val)
 |[]=>.ok []
 |e:: es=>(r e).bind fun v=>(listX r es).bind fun vs=>.ok (v:: vs)
def ux(r:Exp->X Val)(e:Exp):X Val:=
 if e.names.length=e.args.length/\asc e.names=true then
  (if e.names.length<=8 then(listX r e.args).bind fun vs=>if yj (.mk 2 0 e.names vs)<=4 then .ok (.mk 2 0 e.names vs)else .er 6 else .er 6)
 else .er 13
def xY(p:List Mod)(at_:Int)(s:bA):Option Fun:=
 if at_<0 then none else(let l:=(p[at_.toNat]?.getD default).funcs;let i:=Ei l s;if i<0 then none else l[i.toNat]?)
def xM(p:List Mod)(r:Ev)(at_:Int)(f:Fun)(l:List Val):X Val:=
 .get fun m=>if m.frames<60 then
  .upd (fun m=>{ m with calls:=if f.pub=true then m.calls++[⟨(p[at_.toNat]?.getD default).name,f.name,l⟩]else m.calls,frames:=m.frames+1 })
   ((r at_ (f.params.map (·.1)) l f.body).bind fun v=>.upd (fun m=>{ m with frames:=m.frames-1 }) (.ok v))
 else .er 6
def A0(p:List Mod)(r:Ev)(own:Int)(ns:List bA)(vs:List Val)(e:Exp):X Val:=
 let at_:=if e.m=[]then own else Ez p e.m
 match xY p at_ e.s with
 |none=>.er 12
 | some f=>if e.m=[]\/f.pub=true then
   (if e.args.length=f.params.length then(listX (r own ns vs) e.args).bind fun l=>xM p r at_ f l else .er 13)
  else .er 12
def Dt(r:X Val)(e:Exp):X Val:=
 r.bind fun v=>if v.kind=0 then
  (if e.n=1\/e.n=2\/e.n=4\/e.n=8 then
   .get fun m=>.upd (fun m=>{ m with world:=m.world.tail,deeds:=m.deeds++[⟨e.n,v.n,m.world.headD 0⟩] }) (.ok (vK (m.world.headD 0)))
  else .er 14)
 else .er 13
def setSt(st:List (List Val))(i k:Nat)(v:Val):List (List Val):=st.modify i fun l=>l.set k v
def Ba(st:List (List Val))(i k:Nat):Val:=(st.getD i []).getD k default
def ET(p:List Mod)(r:Exp->X Val)(own:Int)(e:Exp):X Val:=
 if own<0 then .er 12 else
 let i:=Ef (p[own.toNat]?.getD default).vars e.s
 if i<0 then .er 12 else
 if e.op=18 then(r e.args[0]!).bind fun v=>.upd (fun m=>{ m with state:=setSt m.state own.toNat i.toNat v }) (.ok v)
 else .get fun m=>.ok (Ba m.state own.toNat i.toNat)
def yU(p:List Mod)(r:Ev):Ev:=fun own ns vs e=>.get fun m=>
 if m.fuel<=0 then .er 16 else .upd (fun m=>{ m with fuel:=m.fuel-1 }) <|
 let n:=DO e.op
 if n= -2\/(n≠-1/\n≠e.args.length)then .er 13
 else if e.op=0 then .ok (vK e.n)
 else if e.op=1 then(if e.n=0\/e.n=1 then .ok (lh (e.n== 1))else .er 13)
 else if e.op=2 then(match Bd ns vs e.s with|some v=>.ok v|none=>.er 12)
 else if e.op=3\/e.op=4\/e.op=5\/e.op=6\/e.op=7 then(r own ns vs e.args[0]!).bind fun a=>(r own ns vs e.args[1]!).bind fun b=>DU e.op a b
 else if e.op=8\/e.op=9 then(boolX (r own ns vs e.args[0]!)).bind fun x=>if x=(e.op== 9)then .ok (lh (e.op== 9))else(boolX (r own ns vs e.args[1]!)).bind fun y=>.ok (lh y)
 else if e.op=10 then(boolX (r own ns vs e.args[0]!)).bind fun x=>.ok (lh !x)
 else if e.op=11 then(boolX (r own ns vs e.args[0]!)).bind fun x=>if x=true then r own ns vs e.args[1]! else r own ns vs e.args[2]!
 else if e.op=12 then(r own ns vs e.args[0]!).bind fun v=>r own (ns++[e.s]) (vs++[v]) e.args[1]!
 else if e.op=13 then ux (r own ns vs) e
 else if e.op=14 then(r own ns vs e.args[0]!).bind fun v=>(match s7 v.names v.values e.s with|some x=>if v.kind=2 then .ok x else .er 13|none=>.er 13)
 else if e.op=15 then A0 p r own ns vs e
 else if e.op=16 then Dt (r own ns vs e.args[0]!) e
 else ET p (r own ns vs) own e
def A7(p:List Mod):Nat->Ev
 |0=>fun _ _ _ _=>.er 16
 |n+1=>yU p (A7 p n)
end Go.Av.Ap
namespace Go.Av.Ap
def Rs.st{α:Type}:Rs α->Ms
 |.ok _ m=>m
 |.er _ m=>m
def Rs.on{α:Type}(f:Ms->Ms):Rs α->Rs α
 |.ok a m=>.ok a (f m)
 |.er e m=>.er e (f m)
def EQ{α:Type}(y:X α):X α:=.get fun m=>if m.fuel<=0 then .er 16 else .upd (fun m=>{ m with fuel:=m.fuel-1 }) y
def FD(n a:Int):X Val:=.get fun m=>.upd (fun m=>{ m with world:=m.world.tail,deeds:=m.deeds++[⟨n,a,m.world.headD 0⟩] }) (.ok (vK (m.world.headD 0)))
structure Closed (p:List Mod) (Q:Int->(α:Type)->X α->Prop):Prop where
 ok:∀(o:Int)(α:Type)(a:α),Q o α (.ok a)
 er:∀(o:Int)(α:Type)(e:Int),e≠0->Q o α (.er e)
 bind:∀(o:Int)(α β:Type)(x:X α)(f:α->X β),Q o α x->(∀a,Q o β (f a))->Q o β (x.bind f)
 tick:∀(o:Int)(α:Type)(y:X α),Q o α y->Q o α (EQ y)
 act:∀(o n a:Int),Q o Val (FD n a)
 set:∀(o:Int)(k:Nat)(v:Val),¬o<0->Q o Val (.upd (fun m=>{ m with state:=setSt m.state o.toNat k v }) (.ok v))
 get:∀(o:Int)(k:Nat),Q o Val (.get fun m=>.ok (Ba m.state o.toNat k))
 enter:∀(o a:Int)(r:Ev)(f:Fun)(l:List Val),¬a<0->a.toNat<p.length->f∈(p[a.toNat]?.getD default).funcs->(∀o ns vs e,Q o Val (r o ns vs e))->Q o Val (xM p r a f l)
def tb{p:List Mod}{a:Int}{s:bA}{f:Fun}(h:xY p a s=some f):¬a<0/\a.toNat<p.length/\f∈(p[a.toNat]?.getD default).funcs:=by
 unfold xY at h;by_cases h1:a<0
 ·simp[h1]at h
 ·rw[if_neg h1]at h;simp only at h;split at h
  ·cases h
  ·have hm:=HM h;refine⟨h1,?_,hm⟩;rcases G7 a.toNat p.length with k|k
   ·exact k
   ·rw[GV k]at hm;cases hm
def Eu{Q:Int->(α:Type)->X α->Prop}{o:Int}{α:Type}{c:Prop}[Decidable c](x y:X α)(h1:Q o α x)(h2:Q o α y):Q o α (if c then x else y):=by
 split
 ·exact h1
 ·exact h2
section
variable {p:List Mod} {Q:Int->(α:Type)->X α->Prop} (C:Closed p Q)
include C
theorem Closed.boolX{o:Int}{r:X Val}(h:Q o Val r):Q o Bool (boolX r):=by
 refine C.bind _ _ _ _ _ h fun v=>?_;split
 ·exact C.ok _ _ _
 ·exact C.er _ _ _ (by decide)
theorem Closed.listX{o:Int}{r:Exp->X Val}(h:∀e,Q o Val (r e)):∀l,Q o (List Val) (listX r l)
 |[]=>C.ok _ _ _
 |e:: l=>C.bind _ _ _ _ _ (h e) fun _=>C.bind _ _ _ _ _ (Closed.listX h l) fun _=>C.ok _ _ _
theorem Closed.step{r:Ev}(h:∀o ns vs e,Q o Val (r o ns vs e))(o:Int)(ns:List bA)(vs:List Val)(e:Exp):Q o Val (yU p r o ns vs e):=by
 unfold yU;refine C.tick _ _ _ ?_;have B:=fun{α β:Type} {x:X α} {f:α->X β}=>C.bind o α β x f;have I:=@Eu Q o;have er:=fun(α:Type) n (h:n≠0)=>C.er o α n h;have ok:=fun(α:Type) (a:α)=>C.ok o α a;refine I _ _ (er _ _ (by decide)) (I _ _ (ok _ _) (I _ _ (I _ _ (ok _ _) (er _ _ (by decide))) (I _ _ ?_ (I _ _ ?_ (I _ _ ?_ (I _ _ ?_ (I _ _ ?_ (I _ _ ?_ (I _ _ ?_ (I _ _ ?_ (I _ _ ?_ (I _ _ ?_ ?_))))))))))))
 ·split
  ·exact ok _ _
  ·exact er _ _ (by decide)
 ·refine B (h _ _ _ _) fun a=>B (h _ _ _ _) fun b=>?_;unfold DU;exact I _ _ (I _ _ (ok _ _) (er _ _ (by decide))) (I _ _ (I _ _ (ok _ _) (I _ _ (ok _ _) (I _ _ (ok _ _) (ok _ _)))) (er _ _ (by decide)))
 ·exact B (C.boolX (h _ _ _ _)) fun a=>I _ _ (ok _ _) (B (C.boolX (h _ _ _ _)) fun b=>ok _ _)
 ·exact B (C.boolX (h _ _ _ _)) fun a=>ok _ _
 ·exact B (C.boolX (h _ _ _ _)) fun a=>I _ _ (h _ _ _ _) (h _ _ _ _)
 ·exact B (h _ _ _ _) fun v=>h _ _ _ _
 ·unfold ux;exact I _ _ (I _ _ (B (C.listX (fun e=>h _ _ _ e) _) fun vs=>I _ _ (ok _ _) (er _ _ (by decide))) (er _ _ (by decide))) (er _ _ (by decide))
 ·refine B (h _ _ _ _) fun v=>?_;split
  ·exact I _ _ (ok _ _) (er _ _ (by decide))
  ·exact er _ _ (by decide)
 ·unfold A0;simp only;split
  ·exact er _ _ (by decide)
  ·rename_i f hf;obtain⟨h1,h2,h3⟩:=tb hf;exact I _ _ (I _ _ (B (C.listX (fun e=>h _ _ _ e) _) fun l=>C.enter _ _ _ _ _ h1 h2 h3 h) (er _ _ (by decide))) (er _ _ (by decide))
 ·unfold Dt;exact B (h _ _ _ _) fun v=>I _ _ (I _ _ (C.act _ _ _) (er _ _ (by decide))) (er _ _ (by decide))
 ·unfold ET;split
  ·exact er _ _ (by decide)
  ·rename_i ho;exact I _ _ (er _ _ (by decide)) (I _ _ (B (h _ _ _ _) fun v=>C.set _ _ _ ho) (C.get _ _))
theorem Closed.eval:∀(n:Nat)(o:Int)(ns:List bA)(vs:List Val)(e:Exp),Q o Val (A7 p n o ns vs e)
 |0,_,_,_,_=>C.er _ _ _ (by decide)
 |n+1,o,ns,vs,e=>C.step (fun o ns vs e=>Closed.eval n o ns vs e) o ns vs e
end
end Go.Av.Ap
namespace Go.Av.Ap
def nI(p:List Mod):Bool:=(List.range p.length).any fun i=>(p.take i).any fun m=>m.name== (p[i]?.getD default).name
end Go.Av.Ap
namespace Go.Av.Ap
open Go Go.Av
def bv(n:Int):BitVec 64:=BitVec.ofInt 64 n
def fU(a b:Int):Prop:=bv a ||| bv b=bv b
def fU.refl(a:Int):fU a a:=BitVec.or_self
def fU.trans{a b c:Int}(h1:fU a b)(h2:fU b c):fU a c:=by
 unfold fU at *;rw[<- h2,<- BitVec.or_assoc,h1]
theorem tS(b:BitVec 64):bv (IntKind.i64.wrap b.toNat)=b:=by
 unfold bv;have h:IntKind.i64.wrap b.toNat=b.toInt:=by
  have h:=b.isLt;rw[BitVec.toInt_eq_toNat_cond];have h1:(2:Int) ^ IntKind.i64.bits=18446744073709551616:=rfl;have h2:(2:Int) ^ (IntKind.i64.bits-1)=9223372036854775808:=rfl;have h3:((2 ^ 64:Nat):Int)=18446744073709551616:=rfl;have h4:(b.toNat:Int) % 18446744073709551616=b.toNat:=by omega
  simp only[IntKind.wrap,h1,h2,h3,h4];have h5:IntKind.i64.signed=true:=rfl;rw[h5,HJ];by_cases hb:2*b.toNat<2 ^ 64
  ·rw[GM hb,if_neg (by simp;omega)]
  ·rw[if_neg hb,GM (by simp;omega)]
 rw[h,BitVec.ofInt_toInt]
def AY(a b:Int):bv (l6 a b)=bv a ||| bv b:=tS _
def lA{a b:Int}(h:cp a b=0):fU a b:=by
 have h1:bv (cp a b)=bv a &&& ~~~ bv b:=tS _;rw[h]at h1;unfold fU;have h2:bv a &&& ~~~ bv b=0#64:=h1.symm
 ext i hi
 have:=GR (fun x:BitVec 64=>x.getLsbD i) h2
 simp only[BitVec.getLsbD_and,BitVec.getLsbD_not,hi,HB,HJ,BitVec.getLsbD_zero]at this;rw[Jk];simp only[BitVec.getLsbD_eq_getElem hi]at this;cases h1:(bv a)[i]<;>cases h2:(bv b)[i]<;>simp[h1,h2]at this |-
mutual
def FN:Ty->Val->Prop
 |.mk k fs,v=>v.kind=k/\(fs≠[]->k=2)/\Bb fs v
def Bb:List (bA×Ty)->Val->Prop
 |[],_=>True
 |f:: fs,v=>FM f v/\Bb fs v
def FM:bA×Ty->Val->Prop
 |(n,t),v=>∃x,s7 v.names v.values n=some x/\FN t x
end
theorem dO{α:Type}{p:α->Bool}:{l:List α} ->{z:α} ->aN p l=some z->z∈l/\p z=true
 |[],z,h=>by cases h
 | x:: l,z,h=>by
  simp only[aN]at h;split at h
  ·rename_i y hy;cases h
   have:=dO hy
   exact⟨Hy _ this.1,this.2⟩
  ·cases hx:p x with
   |true=>
    rw[hx]at h;cases h;exact⟨Hz,hx⟩
   |false=>rw[hx]at h;cases h
def sk{f:br}{l:List br}{g:br}(h:y6 f l=some g):g.1=f.1/\∃z,z∈l/\z.1=f.1/\nL f.2 z.2=some g.2:=by
 obtain⟨n,t⟩:=f;simp only[y6]at h;split at h
 ·rename_i z hz;split at h
  ·rename_i u hu;cases h
   have:=dO hz
   exact⟨rfl,z,this.1,Hj.1 this.2,hu⟩
  ·cases h
 ·cases h
theorem nK(l:List br)(g:br):(fs:List br)->g∈fW fs l->∃f∈fs,y6 f l=some g
 |[],h=>by simp[fW]at h
 | f:: fs,h=>by
  simp only[fW,Hf]at h;rcases h with h|h
  ·split at h
   ·rename_i x hx;simp only[HX]at h;exact⟨f,Hz,by rw[hx,h]⟩
   ·cases h
  ·obtain⟨f',h1,h2⟩:=nK l g fs h;exact⟨f',Hy _ h1,h2⟩
def eF(a b:Ty):aJ a b=true↔a.kind=b.kind/\∀f∈b.fields,∃z,aN (fun z=>z.1== f.1) a.fields=some z/\aJ z.2 f.2=true:=by
 rw[iQ];simp only[GJ,Hj,GT];refine and_congr_right fun _=>⟨fun h f hf=>?_,fun h f hf=>?_⟩
 ·have:=h f hf
  split at this
  ·rename_i z hz;exact⟨z,hz,this⟩
  ·cases this
 ·obtain⟨z,h1,h2⟩:=h f hf;rw[h1];exact h2
def mw{a b c:Ty}(h1:aJ a b=true)(h2:aJ b c=true):aJ a c=true:=pD _ a b c (GL _) h1 h2
theorem oT{α:Type}(p:α->Bool):(a b:List α)->aN p (a++b)=match aN p b with
  |some y=>some y
  |none=>aN p a
 |[],b=>by
  simp only[Hu,aN];split<;>simp_all
 |x:: a,b=>by
  simp only[Hg,aN,oT p a b];cases aN p b<;>rfl
theorem rD{α:Type}{p:α->Bool}:{l:List α} ->aN p l=none->∀x∈l,p x=false
 | y:: l,h,x,hx=>by
  simp only[aN]at h;cases hl:aN p l with
  |some z=>rw[hl]at h;cases h
  | none=>
   rw[hl]at h;rcases Ha.1 hx with rfl|hx
   ·cases hp:p x with
    |false=>rfl
    |true=>rw[hp]at h;cases h
   ·exact rD hl x hx
theorem oV(l:List br)(s:bA):(fs:List br)->{z:br} ->aN (fun z=>z.1== s) fs=some z->{g:br} ->y6 z l=some g->aN (fun z=>z.1== s) (fW fs l)=some g
 | f:: fs,z,h,g,hg=>by
  simp only[aN]at h;simp only[fW];rw[oT];cases hl:aN (fun z:br=>z.1== s) fs with
  |some y=>
   rw[hl]at h;cases h;rw[oV l s fs hl hg]
  | none=>
   rw[hl]at h;have hno:aN (fun z:br=>z.1== s) (fW fs l)=none:=jv fun x hx=>by
    obtain⟨f',h1,h2⟩:=nK l x fs hx;rw[(sk h2).1];exact rD hl f' h1
   rw[hno];cases hp:f.1== s with
   |false=>rw[hp]at h;cases h
   |true=>
    rw[hp]at h;cases h;rw[hg];have e:(g.1== s)=true:=by rw[(sk hg).1];exact hp
    simp only[aN,e,GK]
def y7(a b:Ty):nL a b=if a.kind=b.kind then some (.mk a.kind (fW a.fields b.fields))else none:=by cases a;rfl
theorem nJ(z:br)(l:List br):y6 z l=match aN (fun x=>x.1== z.1) l with
  |some x=>(match nL z.2 x.2 with|some u=>some (z.1,u)|none=>none)
  |none=>none:=by
 obtain⟨n,t⟩:=z;simp only[y6]
def Ar:∀(n:Nat)(a b a' b' u:Ty),SizeOf.sizeOf a<=n->aJ a' a=true->aJ b' b=true->nL a b=some u->∃u',nL a' b'=some u'/\aJ u' u=true:=by
 intro n
 induction n with
 |zero=>intro a;intros;cases a;simp at *
 | succ n ih=>
  intro a b a' b' u hn ha hb hu;rw[eF]at ha hb;rw[y7]at hu;split at hu
  ·rename_i hk;cases hu;refine⟨_,by rw[y7,GM (by rw[ha.1,hb.1,hk])],?_⟩;rw[eF];refine⟨ha.1,fun g hg=>?_⟩;obtain⟨f,hf,h2⟩:=nK _ g _ hg;have h2':=h2;rw[nJ]at h2;split at h2
   ·rename_i z hz;split at h2
    ·rename_i v hv;cases h2;obtain⟨z1,g1,g2⟩:=ha.2 f hf;obtain⟨h3,h4⟩:=dO hz;obtain⟨z2,g3,g4⟩:=hb.2 z h3;have h4:z.1=f.1:=Hj.1 h4;rw[h4]at g3;have hsz:=xX hf;obtain⟨w,w1,w2⟩:=ih f.2 z.2 z1.2 z2.2 v (by omega) g2 g4 hv;have hz1:z1.1=f.1:=Hj.1 (dO g1).2;refine⟨(z1.1,w),oV _ _ _ g1 (by rw[nJ,hz1,g3];simp only[w1]),w2⟩
    ·cases h2
   ·cases h2
  ·cases hu
theorem ot{α β:Type}{F:α->β->Bool}:{a:List α} ->{b:List β} ->cg F a b=true->a.length=b.length
 |[],[],_=>rfl
 |x:: a,y:: b,h=>by
  simp only[cg,GJ]at h;simp only[GY,ot h.2]
def jO{l' l:List Ty}(h:cg aJ l' l=true)(i:Nat):aJ l'[i]! l[i]! = true:=by
 induction l' generalizing l i with
 |nil=>cases l with
  |nil=>simp;rfl
  |cons y l=>cases h
 | cons x l' ih=>cases l with
  |nil=>cases h
  |cons y l=>
   simp only[cg,GJ]at h;cases i with
   |zero=>simpa using h.1
   |succ i=>simpa using ih h.2 i
theorem jj(k:Int):{l' l:List Ty} ->cg aJ l' l=true->f9 k l'=f9 k l
 |[],[],_=>rfl
 |x:: l',y:: l,h=>by
  simp only[cg,GJ]at h;have ih:=jj k h.2;unfold f9 at ih |-;rw[HK,HK,ih,((eF _ _).1 h.1).1]
theorem pq:(ns:List bA)->(l' l:List Ty)->cg aJ l' l=true->∀f∈ns.zip l,∃t,(f.1,t)∈ns.zip l'/\aJ t f.2=true
 | n:: ns,x:: l',y:: l,h,f,hf=>by
  simp only[cg,GJ]at h;rw[Jf]at hf |-;rcases Ha.1 hf with rfl|hf
  ·exact⟨x,Hz,h.1⟩
  ·obtain⟨t,h1,h2⟩:=pq ns l' l h.2 f hf;exact⟨t,Hy _ h1,h2⟩
 |[],_,_,_,f,hf=>by simp at hf
 |n:: ns,[],[],_,f,hf=>by simp at hf
theorem sr{R:bA->bA->Prop}:(ns:List bA)->(l:List Ty)->ns.Pairwise R->(ns.zip l).Pairwise fun x y=>R x.1 y.1
 |[],_,_=>by simp
 |_:: _,[],_=>by simp
 |n:: ns,t:: l,h=>by
  rw[Jf];obtain⟨h1,h2⟩:=H9.1 h;refine H9.2 ⟨fun x hx=>h1 _ (List.of_mem_zip hx).1,sr ns l h2⟩
def tw{e:Exp}(he:iL e=true){l' l:List Ty}(h:cg aJ l' l=true){t:Ty}(ht:bO e l=some t):∃t',bO e l'=some t'/\aJ t' t=true:=by
 have b0:∀k,aJ (.mk k []) (.mk k [])=true:=fun k=>by rw[eF];exact⟨rfl,fun f hf=>by cases hf⟩
 unfold bO at ht |-;rw[jj 0 h,jj 1 h];split at ht
 ·rw[GM ‹_›];split at ht
  ·cases ht;rw[GM ‹_›];exact⟨_,rfl,b0 _⟩
  ·cases ht
 rw[if_neg ‹_›];split at ht
 ·rw[GM ‹_›];cases ht;exact⟨_,rfl,b0 _⟩
 rw[if_neg ‹_›];split at ht
 ·rw[GM ‹_›];split at ht
  ·cases ht;rw[GM ‹_›];exact⟨_,rfl,b0 _⟩
  ·cases ht
 rw[if_neg ‹_›];split at ht
 ·rw[GM ‹_›];split at ht
  ·cases ht;rw[GM ‹_›];exact⟨_,rfl,b0 _⟩
  ·cases ht
 rw[if_neg ‹_›];split at ht
 ·rw[GM ‹_›];split at ht
  ·cases ht;rw[GM ‹_›];exact⟨_,rfl,b0 _⟩
  ·cases ht
 rw[if_neg ‹_›];split at ht
 ·rw[GM ‹_›];cases hu:nL l[1]! l[2]! with
  |none=>rw[hu]at ht;cases ht
  |some u=>
   rw[hu]at ht;obtain⟨u',h1,h2⟩:=Ar _ _ _ _ _ _ (GL _) (jO h 1) (jO h 2) hu;rw[h1];simp only at ht |-;rw[((eF _ _).1 (jO h 0)).1];split at ht
   ·cases ht;rw[GM ‹_›];exact⟨_,rfl,h2⟩
   ·cases ht
 rw[if_neg ‹_›];split at ht
 ·rename_i h13;rw[GM h13];cases ht;refine⟨_,rfl,?_⟩;have hns:gD dm e.names=true:=by
   unfold iL dY qc at he;simp[h13]at he;exact he.2.1.2
  have hp:=sr e.names l' (kD (nm:=fun s:bA=>s) (fun x y h=>(mn _ _).1 h) _ hns);rw[eF];refine⟨rfl,fun f hf=>?_⟩;obtain⟨u,h1,h2⟩:=pq e.names l' l h f hf;have h3:=kS (nm:=fun f:br=>f.1) hp h1;exact⟨_,h3,h2⟩
 rw[if_neg ‹_›];split at ht
 ·rw[GM ‹_›];cases hz:aN (fun z:br=>z.1== e.s) l[0]!.fields with
  |none=>rw[hz]at ht;cases ht
  |some z=>
   rw[hz]at ht;cases ht;obtain⟨h1,h2⟩:=dO hz;obtain⟨y,h3,h4⟩:=((eF _ _).1 (jO h 0)).2 z h1;have h2:z.1=e.s:=Hj.1 h2;rw[h2]at h3;rw[h3];exact⟨_,rfl,h4⟩
 rw[if_neg ‹_›];cases ht;exact⟨_,rfl,b0 _⟩
def fI(e:Exp):Prop:=∃k,cm k e=true
def fI.shape{e:Exp}(h:fI e):iL e=true:=by
 obtain⟨k,h⟩:=h;cases k with
 |zero=>cases h
 |succ k=>rw[f8,GJ]at h;exact h.1
def fI.kid{e:Exp}(h:fI e){x:Exp}(hx:x∈e.args):fI x:=by
 obtain⟨k,h⟩:=h;cases k with
 |zero=>cases h
 |succ k=>rw[f8,GJ,GT]at h;exact⟨k,h.2 x hx⟩
def tD:fI default:=⟨1,by decide +kernel⟩
def fI.nth{e:Exp}(h:fI e)(i:Nat):fI e.args[i]!:=by
 by_cases hi:i<e.args.length
 ·rw[G2 e.args i hi];exact h.kid (GQ hi)
 ·rw[getElem!_neg e.args i hi];exact tD
structure CLe (c c':Tcx):Prop where
 vars:c'.vars=c.vars
 vok:∀z∈c.vars,aJ z.2 z.2=true
 call:∀e s,ct c e=some s->∃s',ct c' e=some s'/\cg aJ s.1 s'.1=true/\aJ s'.2.1 s.2.1=true/\fU s'.2.2 s.2.2
def Cq(f' f:br):Bool:=f'.1== f.1&&aJ f'.2 f.2
theorem uh{s:bA}:{ls' ls:List br} ->cg Cq ls' ls=true->(aN (fun z=>z.1== s) ls=none->aN (fun z=>z.1== s) ls'=none)/\∀z,aN (fun z=>z.1== s) ls=some z->∃z',aN (fun z=>z.1== s) ls'=some z'/\aJ z'.2 z.2=true
 |[],[],_=>⟨fun _=>rfl,fun z h=>by cases h⟩
 | x:: ls',y:: ls,h=>by
  simp only[cg,GJ,Cq,Hj]at h;obtain⟨⟨h1,h2⟩,h3⟩:=h;obtain⟨i1,i2⟩:=uh (s:=s) h3;simp only[aN];cases hl:aN (fun z:br=>z.1== s) ls with
  |some z=>
   obtain⟨z',e1,e2⟩:=i2 z hl;rw[e1];exact⟨fun h=>(by cases h),fun w hw=>by cases hw;exact⟨z',rfl,e2⟩⟩
  |none=>
   rw[i1 hl,h1];cases y.1== s with
   |true=>exact⟨fun h=>(by cases h),fun z hz=>by cases hz;exact⟨x,rfl,h2⟩⟩
   |false=>exact⟨fun _=>rfl,fun z hz=>by cases hz⟩
theorem qH{α β:Type}{F:α->β->Bool}:{a:List α} ->{b:List β} ->cg F a b=true->∀ {x y},F x y=true->cg F (a++[x]) (b++[y])=true
 |[],[],_,x,y,h=>by simp[cg,h]
 |z:: a,w:: b,h,x,y,hxy=>by
  simp only[cg,GJ]at h;simp only[Hg,cg,GJ];exact⟨h.1,qH h.2 hxy⟩
def oA:{a b c:List Ty} ->cg aJ a b=true->cg aJ b c=true->cg aJ a c=true:=fun h1 h2=>mo (F:=aJ) (fun _ _ _ h h'=>mw h h') h1 h2
def uq{a a' b b':Int}(h1:fU a' a)(h2:fU b' b):fU (l6 a' b') (l6 a b):=by
 unfold fU at *;rw[AY,AY,<- h1,<- h2]
 ext i hi
 simp only[Jk];cases (bv a)[i]<;>cases (bv a')[i]<;>cases (bv b)[i]<;>cases (bv b')[i]<;>rfl
def sf{a b:Int}(h:fU a b):cp a b=0:=by
 unfold cp;have:BitVec.ofInt 64 a &&& ~~~ BitVec.ofInt 64 b=0#64:=by
  have h:bv a ||| bv b=bv b:=h;show bv a &&& ~~~ bv b=0#64
  ext i hi
  have h3:=GR (fun x:BitVec 64=>x[i]'hi) h;simp only[Jk]at h3;simp only[BitVec.getElem_and,BitVec.getElem_not,BitVec.getElem_zero];cases h1:(bv a)[i]<;>cases h2:(bv b)[i]<;>simp[h1,h2]at h3 |-
 rw[this];rfl
def wd(x x':dv Ty):Prop:=∀n n' t m,fU n' n->x n= .ok t m->∃t' m',x' n'= .ok t' m'/\aJ t' t=true/\fU m' m
def Dq(x x':dv (List Ty)):Prop:=∀n n' l m,fU n' n->x n= .ok l m->∃l' m',x' n'= .ok l' m'/\cg aJ l' l=true/\fU m' m
theorem jz{r r':Exp->dv Ty}:(es:List Exp)->(∀e∈es,wd (r e) (r' e))->Dq (cR r es) (cR r' es)
 |[],_=>fun n n' l m hn h=>by
  cases h;exact⟨_,_,rfl,rfl,hn⟩
 | e:: es,H=>fun n n' l m hn h=>by
  simp only[cR,dv.bind]at h|-;cases h1:r e n with
  |er b q=>rw[h1]at h;cases h
  | ok t q=>
   rw[h1]at h;obtain⟨t',q',e1,e2,e3⟩:=H e Hz n n' t q hn h1;rw[e1];simp only at h|-;cases h2:cR r es q with
   |er b q2=>rw[h2]at h;cases h
   |ok ts q2=>
    rw[h2]at h;obtain⟨ts',q2',f1,f2,f3⟩:=jz es (fun e he=>H e (Hy _ he)) q q' ts q2 e3 h2;rw[f1];cases h;exact⟨_,_,rfl,by simp only[cg,e2,f2,IP],f3⟩
theorem pn{c c':Tcx}(C:CLe c c'):∀(d:Nat)(ls' ls:List br)(e:Exp),fI e->cg Cq ls' ls=true->wd (bi c d ls e) (bi c' d ls' e)
 |0,_,_,_,_,_=>fun n n' t m _ h=>by cases h
 | d + 1,ls',ls,e,he,hls=>by
  have H:∀(ls' ls:List br)(e:Exp),fI e->cg Cq ls' ls=true->wd (bi c d ls e) (bi c' d ls' e):=pn C d;intro n n' t m hn h;have h:cH c (bi c d) ls e n= .ok t m:=h;show ∃t' m',cH c' (bi c' d) ls' e n'= .ok t' m'/\_;by_cases h2:e.op=2
  ·rw[nD h2]at h|-;cases hz:aN (fun z:br=>z.1== e.s) ls with
   |none=>rw[hz]at h;cases h
   |some z=>
    rw[hz]at h;cases h;obtain⟨z',e1,e2⟩:=(uh hls).2 z hz;rw[e1];exact⟨_,_,rfl,e2,hn⟩
  by_cases h12:e.op=12
  ·rw[nC h12]at h|-;unfold dv.bind at h|-;cases h1:bi c d ls e.args[0]! n with
   |er b q=>rw[h1]at h;cases h
   |ok u q=>
    rw[h1]at h;obtain⟨u',q',e1,e2,e3⟩:=H ls' ls _ (he.nth 0) hls n n' u q hn h1;rw[e1];exact H _ _ _ (he.nth 1) (qH hls (by simp[Cq,e2])) q q' t m e3 h
  by_cases h17:e.op=17\/e.op=18
  ·rw [nB h17]at h|-;rw[C.vars];cases hz:aN (fun z:br=>z.1== e.s) c.vars with
   |none=>rw[hz]at h;cases h
   | some z=>
    rw[hz]at h;simp only at h|-;by_cases h18:e.op=18
    ·rw[GM h18]at h|-;unfold dv.bind at h|-;cases h1:bi c d ls e.args[0]! n with
     |er b q=>rw[h1]at h;cases h
     | ok u q=>
      rw[h1]at h;obtain⟨u',q',e1,e2,e3⟩:=H ls' ls _ (he.nth 0) hls n n' u q hn h1;rw[e1];simp only at h|-;split at h
      ·rename_i hb;cases h;rw[GM (mw e2 hb)];exact⟨_,_,rfl,C.vok z (dO hz).1,e3⟩
      ·cases h
    ·rw[if_neg h18]at h|-;cases h;exact⟨_,_,rfl,C.vok z (dO hz).1,hn⟩
  by_cases h15:e.op=15
  ·rw [lS h15]at h|-;cases hs:ct c e with
   |none=>rw[hs]at h;cases h
   | some s=>
    rw[hs]at h;obtain⟨s',e1,e2,e3,e4⟩:=C.call e s hs;rw[e1];simp only at h|-;split at h
    ·rename_i hl;rw[GM (by rw[<- hl,ot e2])];unfold dv.bind at h|-;cases h1:cR (bi c d ls) e.args n with
     |er b q=>rw[h1]at h;cases h
     | ok l q=>
      rw[h1]at h;obtain⟨l',q',f1,f2,f3⟩:=jz e.args (fun x hx=>H ls' ls x (he.kid hx) hls) n n' l q hn h1;rw[f1];simp only at h|-;split at h
      ·rename_i hb;cases h;rw[GM (oA (oA f2 hb) e2)];exact⟨_,_,rfl,e3,uq f3 e4⟩
      ·cases h
    ·cases h
  rw[lT h2 h12 h17 h15]at h|-;unfold dv.bind at h|-;cases h1:cR (bi c d ls) e.args n with
  |er b q=>rw[h1]at h;cases h
  | ok l q=>
   rw[h1]at h;obtain⟨l',q',f1,f2,f3⟩:=jz e.args (fun x hx=>H ls' ls x (he.kid hx) hls) n n' l q hn h1;rw[f1];simp only at h|-;cases hp:bO e l with
   |none=>rw[jG hp]at h;cases h
   |some u=>
    rw[gY hp]at h;cases h;obtain⟨u',g1,g2⟩:=tw he.shape f2 hp;rw[gY g1];refine⟨_,_,rfl,g2,?_⟩;split
    ·exact uq f3 (fU.refl _)
    ·exact f3
theorem uE:{l:List (bA×Int)} ->(∀x∈l,x.2=0)->bq l=([],0)
 |[],_=>rfl
 |y:: l,h=>by
  unfold bq;rw[GM (h y Hz)];exact uE fun x hx=>h x (Hy _ hx)
def re{c:Tcx}{f:Fun}:vo c f=0↔∃t n,bi c 12 f.params f.body 0= .ok t n/\aJ t f.result=true/\cp n f.effects=0:=by
 constructor
 ·intro h;unfold vo at h;cases hx:bi c 12 f.params f.body 0 with
  |er b n=>rw[hx]at h;exact absurd h (fw c 12 f.params f.body 0 b n hx)
  | ok t n=>
   rw[hx]at h;simp only at h;by_cases h1:aJ t f.result=true
   ·rw[GM h1]at h;by_cases h2:cp n f.effects=0
    ·exact⟨t,n,rfl,h1,h2⟩
    ·rw[if_neg h2]at h;cases h
   ·rw[if_neg h1]at h;cases h
 ·rintro⟨t,n,h1,h2,h3⟩;unfold vo;rw[h1];simp only[GM h2,GM h3]
def nG{a b:Ty}(h:qu a b=true):aJ a b=true:=by
 unfold qu at h;simp only[GJ]at h;exact h.2
theorem qI{α β:Type}{F G:α->β->Bool}(h:∀x y,F x y=true->G x y=true):{a:List α} ->{b:List β} ->cg F a b=true->cg G a b=true
 |[],[],_=>rfl
 |x:: a,y:: b,g=>by
  simp only[cg,GJ]at g |-;exact⟨h x y g.1,qI h g.2⟩
def uH{l:List br}(h:∀z∈l,a8 z.2=true):cg Cq l l=true:=kB fun z hz=>by
 unfold Cq;rw[eZ 4 z.2 (h z hz)];simp
theorem yQ{a b:Face}(hm:a.module=b.module)(hl:gt a b=none){m:Mod}(M:ModOk m):CLe (dj m [a]) (dj m [b]) where
 vars:=rfl
 vok:=fun z hz=>eZ 4 z.2 (M.vars z hz)
 call :=fun e s h=>by
  unfold ct at h|-;by_cases he:e.m=[]
  ·rw[GM he]at h|-;cases hf:m.funcs.find? (fun f=>f.name== e.s)with
   |none=>
    have h:(match m.funcs.find? (fun f=>f.name== e.s)with|some f=>some (f.params.map (·.2),f.result,f.effects)|none=>none)=some s:=h;rw[hf]at h;cases h
   | some f=>
    have h:(match m.funcs.find? (fun f=>f.name== e.s)with|some f=>some (f.params.map (·.2),f.result,f.effects)|none=>none)=some s:=h;rw[hf]at h;cases h;have F:=M.fns f (HS hf);have hpp:cg aJ (f.params.map fun z:br=>z.2) (f.params.map fun z:br=>z.2)=true:=kB fun t ht=>by
     obtain⟨z,hz,rfl⟩:=HP.1 ht;exact eZ 4 _ (F.pars z hz)
    refine⟨(f.params.map (fun z:br=>z.2),f.result,f.effects),?_,hpp,eZ 4 _ F.res,fU.refl _⟩;show (match m.funcs.find? (fun f=>f.name== e.s)with|some f=>some (f.params.map (fun z:br=>z.2),f.result,f.effects)|none=>none)=_;rw[hf]
  ·rw [if_neg he]at h|-;have ea:(dj m [a]).faces e.m=if a.module=e.m then some a else none:=by
    show[a].find? (fun f=>f.module== e.m)=_;by_cases hx:a.module=e.m<;>simp[hx]
   have eb:(dj m [b]).faces e.m=if a.module=e.m then some b else none:=by
    show[b].find? (fun f=>f.module== e.m)=_;rw[hm];by_cases hx:b.module=e.m<;>simp[hx]
   rw[ea]at h;rw[eb];by_cases hx:a.module=e.m
   ·rw [GM hx]at h|-;simp only at h|-;cases hf:a.funcs.find? (fun s=>s.name== e.s)with
    |none=>rw[hf]at h;cases h
    | some g=>
     rw[hf]at h;simp only at h;split at h
     ·rename_i hu;cases h;have hk:=(vF a b).1 hl g (HS hf);have hn:g.name=e.s:=Hj.1 (List.find?_some (p:=fun s:Sig=>s.name== e.s) hf);unfold kO oM at hk;rw[hn]at hk;cases hg:b.funcs.find? (fun s=>s.name== e.s)with
      |none=>rw[hg]at hk;cases hk
      |some g'=>
       rw[hg]at hk;simp only at hk |-;have hu':e.m∈(dj m [b]).uses:=hu;rw[GM hu'];unfold vU at hk;simp only[GJ]at hk;exact⟨_,rfl,qI (fun _ _ h=>nG h) hk.1.1,nG hk.1.2,lA (Hj.1 hk.2)⟩
     ·cases h
   ·rw[if_neg hx]at h;cases h
theorem Al{a b:Face}{m:Mod}(hm:a.module=b.module)(hl:gt a b=none)(hb:dE b=true)(h:(gI m [a]).2=0):(gI m [b]).2=0:=by
 unfold gI at h|-;split at h
 ·rename_i hr;rw[GJ]at hr;have hfb:[b].all eI=true:=by
   unfold dE at hb;simp only[GJ,GT]at hb;simp only[HK,List.all_nil,IM,eI,GT];intro s hs
   have:=hb.2.1 s hs
   unfold fo at this;simp only[GJ]at this |-;exact⟨this.1.2,this.2⟩
  rw[GM (by rw[hfb,hr.2];rfl)];have H:=tX h;have M:=yu hr.2;have da:cD [] [a]=[a]:=rfl;have db:cD [] [b]=[b]:=rfl;rw[da]at H;rw[db,uE];intro x hx;rcases Hf.1 hx with hx|hx
  ·obtain⟨u,hu,rfl⟩:=HP.1 hx
   have:=H _ (IJ _ (IR hu))
   have e1:([a].find? fun f=>f.module== u).isNone=([b].find? fun f=>f.module== u).isNone:=by
    by_cases hx:b.module=u<;>simp[hm,hx]
   simp only[e1]at this;exact this
  ·rcases Ha.1 hx with rfl|hx
   ·exact H _ (by simp)
   ·obtain⟨f,hf,rfl⟩:=HP.1 hx;have h1:=H _ (IG _ (Hy _ (IR hf)));obtain⟨t,n,e1,e2,e3⟩:=re.1 h1;have F:=M.fns f hf;obtain⟨t',n',g1,g2,g3⟩:=pn (yQ hm hl M) 12 f.params f.params f.body ⟨12,F.body⟩ (uH F.pars) 0 0 t n (fU.refl _) e1;exact re.2 ⟨t',n',g1,mw g2 e2,sf (g3.trans (lA e3))⟩
 ·cases h
end Go.Av.Ap
