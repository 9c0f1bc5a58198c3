/- The abstract evaluator of the model and plain laws, part 4: its soundness holds for every program whose table of types is the evaluator's. No further condition. -/
import Derived.Test.YteemeakjlfnapaaGreatDoorLc
import Derived.ChangeReads
import Derived.ReadAgain
import Derived.Deep.Slices
import Derived.WideShapes
import Derived.SizedLaws
import Derived.Sort.AssemblyPlain
import Derived.Sort.MapsRangeIn
import Derived.Maps.OwnIn
import Derived.RangeFuncSeq
set_option linter.defProp false
set_option linter.unusedSimpArgs false
set_option linter.unusedVariables false
namespace Go.Av.Ap
open Go Go.Av
theorem dj:(a:bA)->aR a a=false
 |[]=>rfl
 |x:: a=>by simp[aR,dj a]
theorem dZ:(a b c:bA)->aR a b=true->aR b c=true->aR a c=true
 |_,[],c,h,_=>by cases ‹bA› <;> simp[aR]at h
 |_,_:: _,[],_,h=>by simp[aR]at h
 |[],_:: _,_:: _,_,_=>by simp[aR]
 | x:: a,y:: b,z:: c,h1,h2=>by
  simp only[aR,It,Hq,Hy,HX,UInt8.lt_iff_toNat_lt]at h1 h2 |-;rcases h1 with h1|⟨rfl,h1⟩
  ·rcases h2 with h2|⟨rfl,h2⟩
   ·exact .inl (by omega)
   ·exact .inl h1
  ·rcases h2 with h2|⟨rfl,h2⟩
   ·exact .inl h2
   ·exact .inr ⟨rfl,dZ a b c h1 h2⟩
theorem fo:(a b:bA)->aR a b=false->a≠b->aR b a=true
 |[],[],_,h=>absurd rfl h
 |[],_:: _,h,_=>by simp[aR]at h
 |_:: _,[],_,_=>by simp[aR]
 | x:: a,y:: b,h1,h2=>by
  simp only[aR,I4,IZ,It,Hq,Hy,HX,UInt8.lt_iff_toNat_lt]at h1 |-;by_cases e:x=y
  ·subst e;refine .inr ⟨rfl,fo a b ?_ fun e=>h2 (by rw[e])⟩;simpa using h1.2
  ·refine .inl ?_;have:x.toNat≠y.toNat:=fun e'=>e (UInt8.toNat_inj.1 e');omega
def gR(p f:bA):di p f=true↔aR p f=true:=by
 unfold di;rw[Ib,I4];constructor
 ·rintro⟨h1,h2⟩;exact fo f p h1 (HB.1 h2)
 ·intro h;refine⟨?_,?_⟩
  ·cases hc:aR f p with
   |false=>rfl
   |true=>exact absurd (dZ _ _ _ h hc) (by simp[dj])
  ·rw[HB];rintro rfl;rw[dj]at h;cases h
theorem i7{α:Type}{Q:α->α->Bool}{nm:α->bA}(hQ:∀x y,Q x y=true->aR (nm x) (nm y)=true):(l:List α)->gE Q l=true->l.Pairwise fun x y=>aR (nm x) (nm y)=true
 |[],_=>.nil
 |[x],_=>by simp
 |x:: y:: r,h=>by
  simp only[gE,Hq]at h;have ih:=i7 hQ (y:: r) h.2;refine .cons (fun z hz=>?_) ih;have h1:=hQ _ _ h.1;rcases HO.1 hz with rfl|hz
  ·exact h1
  ·exact dZ _ _ _ h1 ((IV.1 ih).1 z hz)
theorem jL{α:Type}{p:α->Bool}:{l:List α} ->(∀z∈l,p z=false)->aJ p l=none
 |[],_=>rfl
 |z:: l,h=>by simp[aJ,jL (l:=l) fun y hy=>h y (by simp[hy]),h z (by simp)]
theorem lp{α:Type}{nm:α->bA}:{l:List α} ->(l.Pairwise fun x y=>aR (nm x) (nm y)=true)->{x:α} ->x∈l->aJ (fun z=>nm z== nm x) l=some x
 | y:: l,h,x,hx=>by
  rcases HO.1 hx with rfl|hx
  ·have:aJ (fun z=>nm z== nm x) l=none:=jL fun z hz=>by
    rw[HB];intro e;have h1:=(IV.1 h).1 z hz;rw[e,dj]at h1;cases h1
   simp[aJ,this]
  ·simp[aJ,lp (IV.1 h).2 hx]
theorem ln{α:Type}{p:α->Bool}:{l:List α} ->{x:α} ->aJ p l=some x->p x=true/\x∈l
 | z:: l,x,h=>by
  unfold aJ at h;cases hl:aJ p l with
  |some y=>
   rw[hl]at h;cases h;exact⟨(ln hl).1,by simp[(ln hl).2]⟩
  | none=>
   rw[hl]at h;cases hz:p z with
   |false=>rw[hz]at h;cases h
   |true=>
    rw[hz]at h;cases h;exact⟨hz,by simp⟩
theorem fv:(d:Nat)->(t:Ty)->b9 d t=true->aO t t=true
 |0,_,h=>by cases h
 |d+1,t,h=>by
  rw[dp]at h;simp only[Hq,Hx]at h;have hp:=i7 (nm:=fun f:bi=>f.1) (fun x y h=>(gR _ _).1 h) _ h.2.2;rw[i8];simp only[I8,IA,Hx];intro f hf;rw[lp (nm:=fun f:bi=>f.1) hp hf];exact fv d f.2 (h.2.1 f hf).2
def y8{t:Ty}{f:bi}(h:f∈t.fields):SizeOf.sizeOf f.2<SizeOf.sizeOf t:=by
 cases t with
 |mk k fs=>
  have h1:SizeOf.sizeOf f<SizeOf.sizeOf fs:=Jr h;obtain⟨n,u⟩:=f;simp only[Jy]at h1;simp only[Ty.mk.sizeOf_spec];omega
def p7(n:Nat):(a b c:Ty)->SizeOf.sizeOf c<=n->aO a b=true->aO b c=true->aO a c=true:=by
 induction n with
 |zero=>intro a b c hn;cases c;simp at hn
 | succ n ih=>
  intro a b c hn h1 h2;rw[i8]at h1 h2 |-;simp only[Hq,HX,Hx]at h1 h2 |-;refine⟨h1.1.trans h2.1,fun f hf=>?_⟩;have g2:=h2.2 f hf;cases hy:aJ (fun z:bi=>z.1== f.1) b.fields with
  |none=>rw[hy]at g2;cases g2
  | some y=>
   rw[hy]at g2;have hy':=ln hy;have g1:=h1.2 y hy'.2;rw[HX.1 hy'.1]at g1;cases hz:aJ (fun z:bi=>z.1== f.1) a.fields with
   |none=>rw[hz]at g1;cases g1
   |some z=>
    rw[hz]at g1;exact ih z.2 y.2 f.2 (by have:=y8 hf;omega) g1 g2
theorem kT{α:Type}{F:α->α->Bool}:{l:List α} ->(∀x∈l,F x x=true)->cd F l l=true
 |[],_=>rfl
 |x:: l,h=>by simp[cd,h x (by simp),kT (l:=l) fun y hy=>h y (by simp[hy])]
theorem mG{α:Type}{F:α->α->Bool}(ht:∀x y z,F x y=true->F y z=true->F x z=true):{a b c:List α} ->cd F a b=true->cd F b c=true->cd F a c=true
 |[],[],[],_,_=>rfl
 |x:: a,y:: b,z:: c,h1,h2=>by
  simp only[cd,Hq]at *;exact⟨ht _ _ _ h1.1 h2.1,mG ht h1.2 h2.2⟩
 |[],[],_:: _,_,h=>by cases h
 |[],_:: _,_,h,_=>by cases h
 |_:: _,[],_,h,_=>by cases h
 |_:: _,_:: _,[],_,h=>by cases h
theorem rI(a b:Int):(cS a b== 0)=true↔BitVec.ofInt 64 a &&& ~~~ BitVec.ofInt 64 b=0#64:=by
 unfold cS;generalize BitVec.ofInt 64 a &&& ~~~ BitVec.ofInt 64 b=v;have hv:=v.isLt;rw[HX];constructor
 ·intro h;apply BitVec.eq_of_toNat_eq;show v.toNat=0;have e:IntKind.i64.wrap (v.toNat:Int)=if decide ((v.toNat:Int) % 18446744073709551616 >= 9223372036854775808)=true then(v.toNat:Int) % 18446744073709551616-18446744073709551616 else(v.toNat:Int) % 18446744073709551616:=rfl;rw[e]at h;split at h<;>omega
 ·intro h;rw[h];rfl
end Go.Av.Ap
namespace Go.Av
open Go.RowKit
section
variable {H:Type} {enc:TypeId×Value->H} {P:Program} {w w':World}
theorem jt{base:Nat}{spare:Nat->Bool}{held:Bool}:∀ {ts:List TypeId} {vs:List Value} {ds:List (DataW H)} {ps:List MemPlace},DataW.TrodAll enc P w base spare held ts vs ds ps->(∀p∈ps,w.sameAt w' p)->DataW.TrodAll enc P w' base spare held ts vs ds ps
 |[],[],[],_,h,_=>h
 |_:: _,_:: _,_:: _,_,⟨p,q,⟨n,h1⟩,h2,e⟩,hs=>⟨p,q,⟨n,DataW.trod_carry n _ _ _ h1 (fun x hx=>hs x (by rw[e];exact JW _ hx))⟩,jt h2 (fun x hx=>hs x (by rw[e];exact JP _ hx)),e⟩
theorem qK(hb:Below w.heap.size w w'){p:MemPlace}(hp:p.block<w.heap.size):w.sameAt w' p:=by
 cases p with
 |cell b off=>
  have:=hb.block b hp
  show w'.cell? ⟨b,off,none⟩=w.cell? ⟨b,off,none⟩;simp only[World.cell?,this]
 |map b=>exact hb.block b hp
theorem tw{T:TypeId->Prop}(K:Kids P T)(hz:∀t e,T t->P.underlying t=some (.slice e)->0<P.cellsOf e){ts:List TypeId}{vs:List Value}{ds:List (DataW H)}{ps:List MemPlace}(hT:∀t∈ts,T t)(h:DataW.TrodAll enc P w 0 (fun _=>true) true ts vs ds ps)(hlt:∀p∈ps,p.block<w.heap.size)(hb:Below w.heap.size w w')(sp:Nat->Bool)(hsp:∀p∈ps,sp p.block=true):DataW.TrodAll enc P w' 0 sp true ts vs ds ps:=
 (jt h fun p hp=>qK hb (hlt p hp)).respare K hz hT hsp
end
theorem vo{α:Type}(Q:Nat->α->Prop):∀n,(∀i,i<n->∃x,Q i x)->∃l:List α,l.length=n/\∀i x,l[i]? = some x->Q i x
 |0,_=>⟨[],rfl,fun i x h=>by simp at h⟩
 | n+1,h=>by
  obtain⟨l,h1,h2⟩:=vo Q n fun i hi=>h i (by omega);obtain⟨y,hy⟩:=h n (by omega);refine⟨l++[y],by simp[h1],fun i x hx=>?_⟩;by_cases hi:i<n
  ·rw[HC (by omega)]at hx;exact h2 i x hx
  ·rw[HL (by omega)]at hx;have hin:i-l.length=0:=by
    rcases Il (i-l.length)with h|h
    ·exact h
    ·rw[Hz (by simp;omega)]at hx;cases hx
   rw[hin]at hx;simp only[HS,Ho]at hx;subst hx;obtain rfl:i=n:=by omega
   exact hy
end Go.Av
namespace Go.Av
open Go.RowKit Go.WideShapes Go.ChangeShapes
section
variable {H:Type} (enc:TypeId×Value->H) (P:Program) (W:World)
def Rd{α:Type}(N:Nat)(t:TypeId)(cells:α->List AV)(Ok:α->Prop):Prop:=∀(base:Nat)(held:Bool)(n:Nat),n<N->∀(cs:List Value)(x:DataW H×List MemPlace),DataW.trod enc P W base (fun _=>true) held n t cs=some x->(∀k∈x.1.weights P t,k<=reachBytes)->∃a:α,aN (iy W) [] (cells a) cs/\Ok a
def Aq{α:Type}(N:Nat)(tot:Nat)(o:Nat)(fs:List Field)(cells:α->List AV)(Ok:α->Prop):Prop:=∀(base:Nat)(held:Bool)(n:Nat),n<N->∀(cs:List Value)(xs:List (DataW H×List MemPlace)),cs.length=tot->
 xs.length=fs.length->(∀(i:Nat)(f:Field),fs[i]? = some f->DataW.trod enc P W base (fun _=>true) held n f.type ((cs.drop f.offset).take (P.cellsOf f.type))=xs[i]?)->(∀k∈DataW.weightsEach P (fs.map (·.type)) (xs.map (·.1)),k<=reachBytes)->∃a:α,aN (iy W) [] (cells a) (cs.drop o)/\Ok a
variable {enc P W} {α β:Type} {N:Nat} {t:TypeId}
theorem Rd.zero{cells:α->List AV}{Ok:α->Prop}:Rd enc P W 0 t cells Ok:=fun _ _ n hn=>absurd hn (by omega)
theorem Rd.le{cells:α->List AV}{Ok:α->Prop}(h:Rd enc P W N t cells Ok){M:Nat}(hm:M<=N):Rd enc P W M t cells Ok:=fun b hd n hn=>h b hd n (by omega)
theorem Rd.map{cells:α->List AV}{Ok:α->Prop}(h:Rd enc P W N t cells Ok)(g:α->β){cells':β->List AV}{Ok':β->Prop}(hc:∀a,cells' (g a)=cells a)(ho:∀a,Ok a->Ok' (g a)):Rd enc P W N t cells' Ok':=by
 intro b hd n hn cs x hx hw;obtain⟨a,h1,h2⟩:=h b hd n hn cs x hx hw;exact⟨g a,by rw[hc];exact h1,ho a h2⟩
theorem qH{k:IntKind}(ht:P.underlying t=some (.int k)):Rd enc P W N t (fun n:Int=>[.int k n]) (fun n=>(Lit.int k n).wf=true):=by
 intro b hd n hn cs x hx hw;obtain⟨b,rfl,_,hwf⟩:=DataW.trod_int ht hx;exact⟨b,by simp[aN,VR],hwf⟩
theorem nN(ht:P.underlying t=some .string):Rd enc P W N t (fun s:List UInt8=>[.str s]) (fun s=>s.length<=reachBytes):=by
 intro b hd n hn cs x hx hw;obtain⟨s,rfl,rfl,_⟩:=DataW.trod_string ht hx;exact⟨s.data.toList,by simp[aN,VR],hw _ (by simp[DataW.weights])⟩
def Cl(cells:α->List AV)(ev:α->AV)(sz:Nat):Prop:=∀(a:α)(S:ar)(β:List bj)(vs:List Value),aN S β (cells a) vs->vs.length=sz->∃v,VR S β (ev a) v/\v.cells.toList=vs
theorem kW{cells:α->List AV}{ev:α->AV}{sz:Nat}(he:∀a,ev a= .agg (cells a)):Cl cells ev sz:=fun a S β vs h hl=>⟨.agg vs.toArray,by rw[he];simp only[VR];exact⟨vs,rfl,h⟩,by simp[Value.cells]⟩
theorem yQ{ev:α->AV}(ho:∀a,aX (ev a)=true):Cl (fun a=>[ev a]) ev 1:=fun a S β vs h hl=>by
 simp only[aN]at h;obtain⟨v,_,rfl,h,rfl⟩:=h;exact⟨v,h,by rw[(fS (ho a) h).1]⟩
theorem iY{e:TypeId}:∀ {l:List (DataW H)} {d:DataW H},d∈l->∀k∈d.weights P e,k∈DataW.weightsAll P e l
 |x:: l,d,hd,k,hk=>by
  simp only[DataW.weightsAll,HV];rcases HO.1 hd with rfl|hd
  ·exact .inl hk
  ·exact .inr (iY hd k hk)
theorem kG{e:TypeId}{cells:α->List AV}{Ok:α->Prop}(h:Rd enc P W N e cells Ok)(ht:P.underlying t=some (.slice e)){sz by_:Nat}(hsz:P.cellsOf e=sz)(h0:0<sz)(hby:P.bytesOf e=by_){ev:α->AV}(hev:Cl cells ev sz):
  Rd enc P W N t (fun l:List α=>[.sl (l.map ev)]) (fun l=>l.length*by_<=reachBytes/\∀a∈l,Ok a):=by
 intro base hd n hn cs x hx hw;rcases DataW.trod_slice ht hx with⟨rfl,rfl⟩|⟨a,len,cap,elems,rest,m,rfl,rfl,rfl,hb,hle,hm,hlen,hel,hsp,_⟩
 ·exact⟨[],by simp only[aN,List.map_nil,VR];exact⟨_,_,rfl,⟨none,0,rfl,Hu _,fun _=>rfl,fun q hq=>by cases hq⟩,rfl⟩,by simp,fun a ha=>by cases ha⟩
 obtain⟨hrl,hre⟩:=hsp rfl;rw[hsz]at hel hre;simp only[DataW.weights,ht,HO,HV,hby]at hw;have hspot:0<cap->a.spot=none:=by
  intro hc;have:∃y,(W.cells? base (a.add 0) sz).bind (DataW.trod enc P W base (fun _=>true) hd m e)=some y:=by
   by_cases h1:0<len
   ·have:=hel 0 h1
    rw[HF (by omega)]at this;exact⟨_,by simpa using this⟩
   ·have:=hre 0 (by omega)
    rw[HF (by omega)]at this;obtain rfl:len=0:=by omega
    exact⟨_,by simpa using this⟩
  obtain⟨y,hy⟩:=this;obtain⟨cs,hcs,_⟩:=Kl.1 hy;obtain⟨_,hl,hc⟩:=World.cells?_some hcs;have h2:=hc 0 h0;rw[HF (by omega)]at h2;have h3:=World.cell?_spot h2;have e:(a.add 0).add 0=a:=by unfold Addr.add;simp
  rwa [e]at h3
 have hx:∀i,i<len->∃y:α,(∃v,VR (iy W) [] (ev y) v/\v.cells.size=sz/\eB (iy W) a.block (a.off+i*sz) v.cells.toList)/\Ok y:=by
  intro i hi;have h1:=hel i hi;rw[HF (by omega)]at h1;obtain⟨cs,hcs,htr⟩:=Kl.1 h1;obtain⟨y,hy,hok⟩:=h base hd m (by omega) cs _ htr (fun k hk=>hw k (.inr (.inl (iY (IH.2 ⟨_,HD _,rfl⟩) k hk))));obtain⟨_,hl,hc⟩:=World.cells?_some hcs;obtain⟨v,hv,hvc⟩:=hev y _ _ cs hy hl;refine⟨y,⟨v,hv,by rw[<- Io,hvc,hl],fun j u hj=>?_⟩,hok⟩;rw[hvc]at hj;have hjl:j<sz:=by
   rcases HI j cs.length with h|h
   ·omega
   ·rw[Hz h]at hj;cases hj
  have h2:=hc j hjl;rw[hj]at h2;unfold iy;have hs:=hspot (by omega);have e:(a.add (i*sz)).add j=⟨a.block,a.off+i*sz+j,none⟩:=by
   obtain⟨b,o,s⟩:=a;simp only at hs;subst hs;rw[add_plain,add_plain]
  rw[<- e];exact h2
 obtain⟨l,hl1,hl2⟩:=vo (fun i y=>(∃v,VR (iy W) [] (ev y) v/\v.cells.size=sz/\eB (iy W) a.block (a.off+i*sz) v.cells.toList)/\Ok y) len hx;refine⟨l,?_,?_,fun y hy=>?_⟩
 ·simp only[aN,VR,II];refine⟨_,_,rfl,⟨some a,cap,by rw[hl1],by omega,(fun e=>by cases e),fun q hq=>?_⟩,rfl⟩;cases hq;refine⟨hspot,sz,.of_get fun i e he=>?_⟩;rw[Iy,Iz]at he;obtain⟨y,hy,rfl⟩:=he;exact (hl2 i y hy).1
 ·have:=hw _ (.inl rfl)
  simp only[II]at this;have h3:=HE by_ (show l.length<=elems.length+rest.length by omega);omega
 ·obtain⟨i,hi,e⟩:=List.getElem_of_mem hy;exact (hl2 i y (by rw[HF hi,e])).2
theorem kF{tot:Nat}:Aq enc P W N tot tot [] (fun _:Unit=>[]) (fun _=>True):=fun base hd n hn cs xs hl _ _ _=>⟨(),by simp[aN,<- hl],trivial⟩
theorem cu{tot o k:Nat}{f:Field}{fs:List Field}{c1:α->List AV}{Ok1:α->Prop}{c2:β->List AV}{Ok2:β->Prop}(h1:Rd enc P W N f.type c1 Ok1)(ho:f.offset=o)(hk:P.cellsOf f.type=k)(h2:Aq enc P W N tot (o+k) fs c2 Ok2):
  Aq enc P W N tot o (f:: fs) (fun x:α×β=>c1 x.1++c2 x.2) (fun x=>Ok1 x.1/\Ok2 x.2):=by
 intro base hd n hn cs xs hl hx hf hw
 match xs,hx with
 |x:: xs,hx=>
  have hf0:=hf 0 f rfl;rw[ho,hk]at hf0;simp only[H3,DataW.weightsEach,HV]at hw;obtain⟨a,ha,oa⟩:=h1 base hd n hn _ x hf0 fun k hk=>hw k (.inl hk);obtain⟨b,hb,ob⟩:=h2 base hd n hn cs xs hl (by simpa using hx) (fun i g hg=>by simpa using hf (i+1) g (by simpa using hg)) fun k hk=>hw k (.inr hk);refine⟨(a,b),?_,oa,ob⟩
  have:=ha.append hb
  rwa [<- JE,I2]at this
theorem ji{fs:Array Field}{tot:Nat}{cells:α->List AV}{Ok:α->Prop}(ht:P.underlying t=some (.struct fs))(hc:P.cellsOf t=tot)(h:Aq enc P W N tot 0 fs.toList cells Ok):Rd enc P W (N+1) t cells Ok:=by
 intro base hd n hn cs x hx hw;obtain⟨xs,m,rfl,rfl,hl,hxs,hf⟩:=DataW.trod_struct ht hx;simp only[DataW.weights,ht]at hw;obtain⟨a,h1,h2⟩:=h base hd m (by omega) cs xs (by rw[hl,hc]) (by simpa using hxs) (fun i f hi=>hf i f (by simpa using hi)) hw;exact⟨a,by simpa using h1,h2⟩
theorem zL{cells:α->List AV}{Ok:α->Prop}(h:∀N,Rd enc P W N t cells Ok){base:Nat}{held:Bool}{v:Value}{d:DataW H}{p:List MemPlace}(hd:DataW.Trod enc P W base (fun _=>true) held t v d p)(hw:∀k∈d.weights P t,k<=reachBytes):
  ∃a:α,aN (iy W) [] (cells a) v.cells.toList/\Ok a:=by
 obtain⟨n,hn⟩:=hd;exact h (n+1) base held n (by omega) _ _ hn hw
theorem Bo{f:α->AV}{Ok:α->Prop}(h:∀N,Rd enc P W N t (fun a=>[f a]) Ok){base:Nat}{held:Bool}{v:Value}{d:DataW H}{p:List MemPlace}(hv:v.cells.toList=[v])(hd:DataW.Trod enc P W base (fun _=>true) held t v d p)(hw:∀k∈d.weights P t,k<=reachBytes):
  ∃a:α,VR (iy W) [] (f a) v/\Ok a:=by
 obtain⟨a,h1,h2⟩:=zL h hd hw;rw[hv]at h1;simp only[aN]at h1;obtain⟨y,ys,e,h1,rfl⟩:=h1;cases e;exact⟨a,h1,h2⟩
theorem wb{e:TypeId}{r:Reach}{b0:Nat}{f:α->AV}{Ok:α->Prop}(h:∀N,Rd enc P W N t (fun a=>[f a]) Ok)(ht:P.underlying t=some (.slice e)){base:Nat}{held:Bool}{v:Value}{d:DataW H}{p:List MemPlace}(hok:Value.okWide P W r b0 t v)(hd:DataW.Trod enc P W base (fun _=>true) held t v d p)(hw:∀k∈d.weights P t,k<=reachBytes):∃a:α,VR (iy W) [] (f a) v/\Ok a:=by
 obtain⟨a,len,cap,rfl⟩:=okWide_slice ht hok;exact Bo h rfl hd hw
theorem gT{fs:Array Field}{r:Reach}{b0:Nat}{f:α->AV}{Ok:α->Prop}{cells:α->List AV}(h:∀N,Rd enc P W N t cells Ok)(hf:∀a,f a= .agg (cells a))(ht:P.underlying t=some (.struct fs)){base:Nat}{held:Bool}{v:Value}{d:DataW H}{p:List MemPlace}(hok:Value.okWide P W r b0 t v)(hd:DataW.Trod enc P W base (fun _=>true) held t v d p)(hw:∀k∈d.weights P t,k<=reachBytes):∃a:α,VR (iy W) [] (f a) v/\Ok a:=by
 obtain⟨cs,rfl,_⟩:=okWide_struct ht hok;obtain⟨a,h1,h2⟩:=zL h hd hw;refine⟨a,?_,h2⟩;rw[hf];simp only[VR];exact⟨cs.toList,by simp,h1⟩
theorem fY{ts:List TypeId}{ds:List (DataW H)}(h:(DataW.weightsEach P ts ds).all (· <=reachBytes)=true){j:Nat}{u:TypeId}{d:DataW H}(ht:ts[j]? = some u)(hd:ds[j]? = some d):∀k∈d.weights P u,k<=reachBytes:=fun k hk=>by
 have:=Hx.1 h _ (DataW.weights_mem_each ht hd k hk)
 simpa using this
end
end Go.Av
namespace Go.Av.Ap
open Go Go.Av
def eC(e:Exp):Exp×Int:=
 if e.op=0\/e.op=1 then(.mk e.op e.n [] [] [] e.args,0)
 else if e.op=2\/e.op=17 then(.mk e.op 0 e.s [] [] e.args,0)
 else if e.op=18\/e.op=14 then(.mk e.op 0 e.s [] [] e.args,1)
 else if e.op=16 then(.mk e.op e.n [] [] [] e.args,1)
 else if e.op=10 then(.mk e.op 0 [] [] [] e.args,1)
 else if e.op=12 then(.mk e.op 0 e.s [] [] e.args,2)
 else if e.op=11 then(.mk e.op 0 [] [] [] e.args,3)
 else if e.op=13 then(.mk e.op 0 [] [] e.names e.args,e.names.length)
 else if e.op=15 then(.mk e.op 0 e.s e.m [] e.args,-1)
 else(.mk e.op 0 [] [] [] e.args,2)
def qA(l:List bA):Bool:=(l.all bY&&gE di l)&&decide (l.length<=8)
def ew(e:Exp):Bool:=
 if e.op=0 then decide (0<=e.n)&&decide (e.n<=1099511627776)
 else if e.op=1 then e.n== 0||e.n== 1
 else if e.op=16 then((e.n== 1||e.n== 2)||e.n== 4)||e.n== 8
 else if e.op=2\/e.op=17\/e.op=18\/e.op=14\/e.op=12 then bY e.s
 else if e.op=15 then bY e.s&&(e.m== []||bY e.m)&&decide (e.args.length<=6)
 else if e.op=13 then qA e.names
 else true
def iW(e:Exp):Bool:=
 decide (0<=e.op)&&decide (e.op<19)&&(decide ((eC e).2<0)||((eC e).2== (e.args.length:Int)))&&((eC e).1.n== e.n)&&((eC e).1.s== e.s)&&((eC e).1.m== e.m)&&(((eC e).1.names.length:Int)== (e.names.length:Int))&&ew e
def cM:Nat->Exp->Bool
 |0,_=>false
 |d+1,e=>iW e&&e.args.all (cM d)
theorem gt(d:Nat)(e:Exp):cM (d+1) e=(iW e&&e.args.all (cM d)):=rfl
def lz(a b:Int):Int:=IntKind.i64.wrap (BitVec.ofInt 64 a ||| BitVec.ofInt 64 b).toNat
mutual
def ml:Ty->Ty->Option Ty
 |.mk k fs,b=>if k=b.kind then some (.mk k (eQ fs b.fields))else none
def eQ:List (bA×Ty)->List bi->List bi
 |[],_=>[]
 |f:: fs,l=>(match xj f l with|some x=>[x]|none=>[])++eQ fs l
def xj:bA×Ty->List bi->Option bi
 |(n,t),l=>match aJ (fun z=>z.1== n) l with
  |some z=>(match ml t z.2 with|some u=>some (n,u)|none=>none)
  |none=>none
end
def gx(k:Int)(l:List Ty):Bool:=l.all fun t=>t.kind== k
def bD(e:Exp)(l:List Ty):Option Ty:=
 if e.op=3\/e.op=4\/e.op=5\/e.op=16 then(if gx 0 l=true then some (.mk 0 [])else none)
 else if e.op=1 then some (.mk 1 [])
 else if e.op=6 then(if gx 0 l=true then some (.mk 1 [])else none)
 else if e.op=7 then(if(gx 0 l||gx 1 l)=true then some (.mk 1 [])else none)
 else if e.op=8\/e.op=9\/e.op=10 then(if gx 1 l=true then some (.mk 1 [])else none)
 else if e.op=11 then(match ml l[1]! l[2]! with|some t=>if l[0]!.kind=1 then some t else none|none=>none)
 else if e.op=13 then some (.mk 2 (e.names.zip l))
 else if e.op=14 then(match aJ (fun z=>z.1== e.s) l[0]!.fields with|some z=>some z.2|none=>none)
 else some (.mk 0 [])
inductive Tr (α:Type) where
 |ok (a:α) (n:Int)
 |er (e n:Int)
abbrev df(α:Type):=Int->Tr α
def df.ok{α:Type}(a:α):df α:=fun n=>.ok a n
def df.er{α:Type}(e:Int):df α:=fun n=>.er e n
def df.bind{α β:Type}(x:df α)(f:α->df β):df β:=fun n=>match x n with
 |.ok a n'=>f a n'
 |.er e n'=>.er e n'
structure Tcx where
 vars:List bi
 funcs:List Fun
 uses:List bA
 faces:bA->Option Face
def bS(c:Tcx)(e:Exp):Option (List Ty×Ty×Int):=
 if e.m=[]then(match c.funcs.find? fun f=>f.name== e.s with
  |some f=>some (f.params.map (·.2),f.result,f.effects)
  |none=>none)
 else match c.faces e.m with
  |none=>none
  |some f=>match f.funcs.find? (fun s=>s.name== e.s)with
   |none=>none
   |some s=>if e.m∈c.uses then some (s.params,s.result,s.effects)else none
def bU(r:Exp->df Ty):List Exp->df (List Ty)
 |[]=>.ok []
 |e:: es=>.bind (r e) fun t=>.bind (bU r es) fun ts=>.ok (t:: ts)
def cw(c:Tcx)(r:List bi->Exp->df Ty)(ls:List bi)(e:Exp):df Ty:=
 if e.op=2 then(match aJ (fun z=>z.1== e.s) ls with|some z=>.ok z.2|none=>.er 12)
 else if e.op=12 then .bind (r ls e.args[0]!) fun t=>r (ls++[(e.s,t)]) e.args[1]!
 else if e.op=17\/e.op=18 then(match aJ (fun z=>z.1== e.s) c.vars with
  |none=>.er 12
  |some z=>if e.op=18 then .bind (r ls e.args[0]!) fun u=>if aO u z.2=true then .ok z.2 else .er 13 else .ok z.2)
 else if e.op=15 then(match bS c e with
  |none=>.er 12
  |some s=>if s.1.length=e.args.length then .bind (bU (r ls) e.args) fun l=>if cd aO l s.1=true then fun n=>.ok s.2.1 (lz n s.2.2)else .er 13 else .er 13)
 else .bind (bU (r ls) e.args) fun l n=>match bD e l with
  |some t=>.ok t (if e.op=16 then lz n e.n else n)
  |none=>.er 13 (if e.op=16 then lz n e.n else n)
def a6(c:Tcx):Nat->List bi->Exp->df Ty
 |0=>fun _ _=>.er 16
 |d+1=>cw c (a6 c d)
def dT(f:Face):Bool:=f.funcs.all fun s=>aH s.result&&s.params.all aH
def xi{α:Type}(x:df α):Prop:=∀n b n',x n= .er b n'->b≠0
def sr{α:Type}(a:α):xi (.ok a):=fun n b n' h=>by cases h
def nG{α:Type}{e:Int}(h:e≠0):xi (α:=α) (.er e):=fun n b n' h'=>by cases h';exact h
def jf{α β:Type}{x:df α}{f:α->df β}(hx:xi x)(hf:∀a,xi (f a)):xi (.bind x f):=fun n b n' h=>by
 unfold df.bind at h;split at h
 ·exact hf _ _ _ _ h
 ·rename_i e' m hm;cases h;exact hx _ _ _ hm
def iQ{α:Type}{c:Prop}[Decidable c]{x y:df α}(h1:xi x)(h2:xi y):xi (if c then x else y):=by
 split
 ·exact h1
 ·exact h2
theorem ku{r:Exp->df Ty}(h:∀e,xi (r e)):∀l,xi (bU r l)
 |[]=>sr _
 |e:: l=>jf (h e) fun _=>jf (ku h l) fun _=>sr _
theorem gq(c:Tcx):∀(d:Nat)(ls:List bi)(e:Exp),xi (a6 c d ls e)
 |0,_,_=>nG (by decide)
 | d+1,ls,e=>by
  have H:=gq c d;show xi (cw c (a6 c d) ls e);unfold cw;refine iQ ?_ (iQ ?_ (iQ ?_ (iQ ?_ ?_)))
  ·split
   ·exact sr _
   ·exact nG (by decide)
  ·exact jf (H _ _) fun _=>H _ _
  ·split
   ·exact nG (by decide)
   ·exact iQ (jf (H _ _) fun _=>iQ (sr _) (nG (by decide))) (sr _)
  ·split
   ·exact nG (by decide)
   ·exact iQ (jf (ku (H _) _) fun _=>iQ (fun n b n' h=>by cases h) (nG (by decide))) (nG (by decide))
  ·refine jf (ku (H _) _) fun l n b n' h=>?_;split at h
   ·cases h
   ·cases h;decide
def ig{c:Tcx}{r:List bi->Exp->df Ty}{ls:List bi}{e:Exp}(h:e.op=12):cw c r ls e= .bind (r ls e.args[0]!) fun t=>r (ls++[(e.s,t)]) e.args[1]!:=by
 unfold cw;rw[if_neg (by omega),Ht h]
def ij{c:Tcx}{r:List bi->Exp->df Ty}{ls:List bi}{e:Exp}(h:e.op=2):cw c r ls e=(match aJ (fun z=>z.1== e.s) ls with|some z=>.ok z.2|none=>.er 12):=by
 unfold cw;rw[Ht h]
theorem ie{c:Tcx}{r:List bi->Exp->df Ty}{ls:List bi}{e:Exp}(h:e.op=17\/e.op=18):cw c r ls e=(match aJ (fun z=>z.1== e.s) c.vars with
  |none=>.er 12
  |some z=>if e.op=18 then .bind (r ls e.args[0]!) fun u=>if aO u z.2=true then .ok z.2 else .er 13 else .ok z.2):=by
 unfold cw;rw[if_neg (by omega),if_neg (by omega),Ht h]
theorem gu{c:Tcx}{r:List bi->Exp->df Ty}{ls:List bi}{e:Exp}(h:e.op=15):cw c r ls e=(match bS c e with
  |none=>.er 12
  |some s=>if s.1.length=e.args.length then .bind (bU (r ls) e.args) fun l=>if cd aO l s.1=true then fun n=>.ok s.2.1 (lz n s.2.2)else .er 13 else .er 13):=by
 unfold cw;rw[if_neg (by omega),if_neg (by omega),if_neg (by omega),Ht h]
def md(e:Exp)(l:List Ty):df Ty:=fun n=>match bD e l with
 |some t=>.ok t (if e.op=16 then lz n e.n else n)
 |none=>.er 13 (if e.op=16 then lz n e.n else n)
def fc{e:Exp}{l:List Ty}{t:Ty}(h:bD e l=some t)(n:Int):md e l n= .ok t (if e.op=16 then lz n e.n else n):=by
 unfold md;rw[h]
def ge{e:Exp}{l:List Ty}(h:bD e l=none)(n:Int):md e l n= .er 13 (if e.op=16 then lz n e.n else n):=by
 unfold md;rw[h]
def gw{c:Tcx}{r:List bi->Exp->df Ty}{ls:List bi}{e:Exp}(h1:¬e.op=2)(h2:¬e.op=12)(h3:¬(e.op=17\/e.op=18))(h4:¬e.op=15):cw c r ls e= .bind (bU (r ls) e.args) (md e):=by
 unfold cw;rw[if_neg h1,if_neg h2,if_neg h3,if_neg h4];rfl
abbrev qW(e:Exp):Bool:=cM 12 e
def sy:List bA->List bi->Bool
 |_,[]=>true
 |seen,f:: l=>!(seen.contains f.1)&&bY f.1&&aH f.2&&sy (seen++[f.1]) l
def eM(l:List bi)(most:Int):Bool:=sy [] l&&decide ((l.length:Int)<=most)
def wE(f:Fun):Bool:=bY f.name&&eM f.params 6&&aH f.result&&qW f.body&&(cS f.effects 15== 0)
def l9:List bA->List Fun->Bool
 |_,[]=>true
 |seen,f:: l=>!(seen.contains f.name)&&wE f&&l9 (seen++[f.name]) l
def zA:List bA->List bA->Bool
 |_,[]=>true
 |seen,s:: l=>!(seen.contains s)&&bY s&&zA (seen++[s]) l
def pG(m:Mod):Bool:=bY m.name&&decide (m.uses.length<=12)&&decide (m.funcs.length<=30)&&eM m.vars 8&&(m.init.all qW&&((m.init.length:Int)== m.vars.length))&&(m.moves||decide (m.old.length=0)) &&
 (eM m.old 8&&(m.forward.all qW&&((m.forward.length:Int)== (if m.moves=true then(m.vars.length:Int)else 0)))&&(m.back.all qW&&((m.back.length:Int)== m.old.length)))
def gD(m:Mod):Bool:=zA [] m.uses&&(l9 [] m.funcs&&pG m)
theorem kz:(l:List bi)->(seen:List bA)->sy seen l=true->(∀f∈l,bY f.1=true/\aH f.2=true/\f.1 ∉ seen)/\(l.map (·.1)).Nodup
 |[],seen,_=>⟨fun f h=>(by cases h),List.nodup_nil⟩
 | f:: l,seen,h=>by
  simp only[sy,Hq,Ib]at h;obtain⟨⟨⟨h1,h2⟩,h3⟩,h4⟩:=h;obtain⟨i1,i2⟩:=kz l _ h4;have h1':f.1 ∉ seen:=fun hm=>by rw[Js.2 hm]at h1;cases h1
  refine⟨fun g hg=>?_,?_⟩
  ·rcases HO.1 hg with rfl|hg
   ·exact⟨h2,h3,h1'⟩
   ·obtain⟨j1,j2,j3⟩:=i1 g hg;exact⟨j1,j2,fun hm=>j3 (JW _ hm)⟩
  ·rw[H3,JC];refine⟨fun hm=>?_,i2⟩;obtain⟨g,hg,e⟩:=IH.1 hm;exact (i1 g hg).2.2 (JP _ (by rw[e];simp))
theorem pC:(l:List Fun)->(seen:List bA)->l9 seen l=true->(∀f∈l,wE f=true/\f.name ∉ seen)/\(l.map (·.name)).Nodup
 |[],seen,_=>⟨fun f h=>(by cases h),List.nodup_nil⟩
 | f:: l,seen,h=>by
  simp only[l9,Hq,Ib]at h;obtain⟨⟨h1,h2⟩,h4⟩:=h;obtain⟨i1,i2⟩:=pC l _ h4;have h1':f.name ∉ seen:=fun hm=>by rw[Js.2 hm]at h1;cases h1
  refine⟨fun g hg=>?_,?_⟩
  ·rcases HO.1 hg with rfl|hg
   ·exact⟨h2,h1'⟩
   ·obtain⟨j1,j3⟩:=i1 g hg;exact⟨j1,fun hm=>j3 (JW _ hm)⟩
  ·rw[H3,JC];refine⟨fun hm=>?_,i2⟩;obtain⟨g,hg,e⟩:=IH.1 hm;exact (i1 g hg).2 (JP _ (by rw[e];simp))
structure FunOk (f:Fun):Prop where
 name:bY f.name=true
 plen:f.params.length<=6
 pars:∀z∈f.params,aH z.2=true
 pnames:(f.params.map (·.1)).Nodup
 res:aH f.result=true
 body:cM 12 f.body=true
 eff:cS f.effects 15=0
def C9{f:Fun}(h:wE f=true):FunOk f:=by
 unfold wE eM at h;simp only[Hq,Hy,HX]at h;obtain⟨⟨⟨⟨h1,h2,h3⟩,h4⟩,h5⟩,h6⟩:=h;obtain⟨i1,i2⟩:=kz _ _ h2;exact⟨h1,by omega,fun z hz=>(i1 z hz).2.1,i2,h4,h5,h6⟩
structure ModOk (m:Mod):Prop where
 name:bY m.name=true
 ulen:m.uses.length<=12
 flen:m.funcs.length<=30
 fns:∀f∈m.funcs,FunOk f
 fnames:(m.funcs.map (·.name)).Nodup
 vlen:m.vars.length<=8
 vars:∀z∈m.vars,aH z.2=true
 vnames:(m.vars.map (·.1)).Nodup
 ilen:m.init.length=m.vars.length
 init:∀e∈m.init,cM 12 e=true
 olen:m.old.length<=8
 old:∀z∈m.old,aH z.2=true
 wlen:m.moves=true->m.forward.length=m.vars.length
 forw:∀e∈m.forward,cM 12 e=true
 blen:m.back.length=m.old.length
 back:∀e∈m.back,cM 12 e=true
def uk{m:Mod}(h:gD m=true):ModOk m:=by
 unfold gD pG eM at h;simp only[Hq,Hy,HX,Hx,It]at h;obtain⟨h1,h2,⟨⟨⟨⟨⟨h3,h4⟩,h5⟩,h6,h7⟩,h8,h9⟩,h10⟩,⟨⟨h11,h12⟩,h13,h14⟩,h15,h16⟩:=h;obtain⟨f1,f2⟩:=pC _ _ h2;obtain⟨v1,v2⟩:=kz _ _ h6;obtain⟨o1,_⟩:=kz _ _ h11;exact⟨h3,h4,h5,fun f hf=>C9 (f1 f hf).1,f2,by omega,fun z hz=>(v1 z hz).2.1,v2,by omega,h8,by omega,fun z hz=>(o1 z hz).2.1,fun hm=>by rw[Ht hm]at h14;omega,h13,by omega,h15⟩
def lQ:Face:=⟨[],[]⟩
def dG(m:Mod)(fs:List Face):Tcx:=⟨m.vars,m.funcs,m.uses,fun s=>fs.find? fun f=>f.module== s⟩
def dt:List Face->List Face->List Face
 |acc,[]=>acc
 |acc,f:: fs=>dt (if(acc.find? fun g=>g.module== f.module).isSome=true then acc else acc++[f]) fs
end Go.Av.Ap
namespace Go.Av.Ap
open Go Go.Av
abbrev Ah:=bA×bA
def sH(r:Ah):AV:=.agg [.str r.1,.str r.2]
def sI(l:List Ah):AV:=.sl (l.map sH)
def ut(l:List (List Ah)):AV:=.sl (l.map sI)
@[simp] theorem Cu(r:Ah):aa (sH r)=[.str r.1,.str r.2]:=rfl
@[simp] theorem E4(r:Ah):AV.agg [.str r.1,.str r.2]=sH r:=rfl
@[simp] theorem zx(r:Ah):ck 2 (sH r)=true:=rfl
@[simp] theorem D4(l:List Ah):cE 2 (l.map sH)=true:=cU zx l
@[simp] theorem CX(g:Nat->Nat->Nat->Nat->Bool->AV)(r:Ah):cl g (sH r)=sH r:=rfl
@[simp] theorem AO(g:Nat->Nat->Nat->Nat->Bool->AV)(l:List Ah):cl g (sI l)=sI l:=by simp[sI,cl,dN g sH (CX g)]
@[simp] theorem ES(g:Nat->Nat->Nat->Nat->Bool->AV)(l:List (List Ah)):cl g (ut l)=ut l:=by simp[ut,cl,dN g sI (AO g)]
section
variable {V:Type}
end
end Go.Av.Ap
namespace Go.Av.Ap
open Go Go.Av
mutual
def Dm:Exp->List Exp
 |.mk o n s m ns es=>.mk o n s m ns es:: vB es
def vB:List Exp->List Exp
 |[]=>[]
 |e:: es=>Dm e++vB es
end
end Go.Av.Ap
namespace Go.Av
open Go
section
variable {F:Fence} {n:Nat} {P:Program} {w w':World} {ops:Array Oper} {rest:List Oper} {o:Oper} {a:Act} {Q:Exit->Act->World->Prop} {v:Value}
end
end Go.Av
namespace Go.Av.Ap
open Go Go.Av
def jM{T:TT}{t:Nat}{ti:TI}(ht:T t=some ti)(ha:ti.agg=false){h:Hp}{l k:Nat}{cs:List AV}{v:AV}(h0:h[l]? = some cs)(h1:cs[k]? = some v):bz T t (.hp l k) h= .ok v h:=by
 simp[bz,ht,h0,ha,h1]
def zp{T:TT}{t:Nat}{ti:TI}(ht:T t=some ti)(ha:ti.agg=true){h:Hp}{l k:Nat}{cs:List AV}(h0:h[l]? = some cs)(hle:k+ti.size<=cs.length):bz T t (.hp l k) h= .ok (.agg ((cs.drop k).take ti.size)) h:=by
 simp[bz,ht,h0,ha,hle]
def qN{T:TT}{t:Nat}{ti:TI}(ht:T t=some ti){h:Hp}{l k:Nat}{cs:List AV}{v:AV}(h0:h[l]? = some cs)(hv:ck ti.size v=true)(hle:k+ti.size<=cs.length)(hp:0<ti.size):
  bI T t (.hp l k) v h= .ok (.tup []) (h.set l (setCells cs k (aa v))):=by
 simp[bI,ht,h0,hv,hle,hp]
def EH{T:TT}{t e:Nat}{ti ei:TI}(ht:T t=some ti)(hk:ti.kind= .slice e)(he:T e=some ei){x:AV}(hx:ck ei.size x=true)(hb:0<ei.bytes)(hs:0<ei.size)(hc:ei.bytes<=140737488355328)(h:Hp):
  appH T t false .hn (.sl [x]) h= .ok (.hs h.length 0 1 ei.size ei.agg) (h++[aa x]):=by
 have:cE ei.size [x]=true:=by simp[cE,hx]
 simp[appH,ht,hk,he,fJ,this,hb,hs,iX,hc]
def EI{T:TT}{t e:Nat}{ti ei:TI}(ht:T t=some ti)(hk:ti.kind= .slice e)(he:T e=some ei){x:AV}(hx:ck ei.size x=true)(hb:0<ei.bytes)(hs:0<ei.size){h:Hp}{q n:Nat}{cs:List AV}(h0:h[q]? = some cs)(hok:cs.all aX=true)(hl:cs.length=n*ei.size)(hn:0<n)(hc:(n+1)*ei.bytes<=140737488355328):appH T t false (.hs q 0 n ei.size ei.agg) (.sl [x]) h= .ok (.hs h.length 0 (n+1) ei.size ei.agg) ((h.set q [])++[cs++aa x]):=by
 have h1:cE ei.size [x]=true:=by simp[cE,hx]
 have h2:List.all cs aX=true:=hok;have h3:0<n*ei.size:=Jd hn hs;have h4:cs.take (n*ei.size)=cs:=by rw[<- hl];exact List.take_length
 simp only[appH,ht,hk,he,fJ,h1,hb,hs,iX,h0,h2,hl,Iq,JJ,Hr,I8,List.length_singleton,List.isEmpty_cons,Hw,Jf,List.flatMap_nil,Kr,h3,h4,Hu];rw[Jp hc];simp
end Go.Av.Ap
namespace Go.Av.Ap
def GU:List bA->Bool
 |[]=>true
 |[_]=>true
 |x:: y:: l=>aR x y&&GU (y:: l)
def lC(b:Bool):Val:=.mk 1 (if b then 1 else 0) [] []
def wV(n:Int):Val:=.mk 0 n [] []
def Fp(p:List Mod)(s:bA):Int:=bT (fun m=>m.name== s) p 0
def E6(l:List Fun)(s:bA):Int:=bT (fun f=>f.name== s) l 0
def E3(l:List bi)(s:bA):Int:=bT (fun f=>f.1== s) l 0
structure Ms where
 fuel:Int
 frames:Int
 world:List Int
 deeds:List Deed
 calls:List Call
 state:List (List Val)
inductive Rs (α:Type) where
 |ok (a:α) (m:Ms)
 |er (e:Int) (m:Ms)
def X(α:Type):=Ms->Rs α
def X.ok{α:Type}(a:α):X α:=fun m=>.ok a m
def X.er{α:Type}(e:Int):X α:=fun m=>.er e m
def X.bind{α β:Type}(x:X α)(f:α->X β):X β:=fun m=>match x m with
 |.ok a m'=>f a m'
 |.er e m'=>.er e m'
def X.upd{α:Type}(f:Ms->Ms)(x:X α):X α:=fun m=>x (f m)
def X.get{α:Type}(f:Ms->X α):X α:=fun m=>f m m
def EJ(op:Int):Int:=
 if op=0\/op=1\/op=2\/op=17 then 0
 else if op=10\/op=14\/op=16\/op=18 then 1
 else if op=3\/op=4\/op=5\/op=6\/op=7\/op=8\/op=9\/op=12 then 2
 else if op=11 then 3
 else if op=13\/op=15 then -1
 else -2
def Ce:List bA->List Val->bA->Option Val
 |n:: ns,v:: vs,s=>match Ce ns vs s with
  |some x=>some x
  |none=>if n=s then some v else none
 |_,_,_=>none
def tX:List bA->List Val->bA->Option Val
 |n:: ns,v:: vs,s=>if n=s then some v else tX ns vs s
 |_,_,_=>none
def wr(n:Int):Int:=IntKind.i64.wrap n
def EM(op:Int)(a b:Val):X Val:=
 if op=7 then(if a.kind=b.kind/\a.kind≠2 then .ok (lC (a.n== b.n))else .er 13)
 else if a.kind=0/\b.kind=0 then
  (if op=3 then .ok (wV (wr (a.n+b.n)))else if op=4 then .ok (wV (wr (a.n-b.n)))else if op=5 then .ok (wV (wr (a.n*b.n)))else .ok (lC (decide (a.n<b.n))))
 else .er 13
mutual
def zm:Val->Nat
 |.mk _ _ _ vs=>vg vs+1
def vg:List Val->Nat
 |[]=>0
 |v:: vs=>max (zm v) (vg vs)
end
abbrev Ev:=Int->List bA->List Val->Exp->X Val
def boolX(r:X Val):X Bool:=r.bind fun v=>if v.kind=1 then .ok (v.n== 1)else .er 13
def listX(r:Exp->X Val):List Exp->X (List Val)
 |[]=>.ok []
 |e:: es=>(r e).bind fun v=>(listX r es).bind fun vs=>.ok (v:: vs)
def vI(r:Exp->X Val)(e:Exp):X Val:=
 if e.names.length=e.args.length/\GU e.names=true then
  (if e.names.length<=8 then(listX r e.args).bind fun vs=>if zm (.mk 2 0 e.names vs)<=4 then .ok (.mk 2 0 e.names vs)else .er 6 else .er 6)
 else .er 13
def y9(p:List Mod)(at_:Int)(s:bA):Option Fun:=
 if at_<0 then none else(let l:=(p[at_.toNat]?.getD default).funcs;let i:=E6 l s;if i<0 then none else l[i.toNat]?)
def yT(p:List Mod)(r:Ev)(at_:Int)(f:Fun)(l:List Val):X Val:=
 .get fun m=>if m.frames<60 then
  .upd (fun m=>{ m with calls:=if f.pub=true then m.calls++[⟨(p[at_.toNat]?.getD default).name,f.name,l⟩]else m.calls,frames:=m.frames+1 })
   ((r at_ (f.params.map (·.1)) l f.body).bind fun v=>.upd (fun m=>{ m with frames:=m.frames-1 }) (.ok v))
 else .er 6
def BU(p:List Mod)(r:Ev)(own:Int)(ns:List bA)(vs:List Val)(e:Exp):X Val:=
 let at_:=if e.m=[]then own else Fp p e.m
 match y9 p at_ e.s with
 |none=>.er 12
 | some f=>if e.m=[]\/f.pub=true then
   (if e.args.length=f.params.length then(listX (r own ns vs) e.args).bind fun l=>yT p r at_ f l else .er 13)
  else .er 12
def En(r:X Val)(e:Exp):X Val:=
 r.bind fun v=>if v.kind=0 then
  (if e.n=1\/e.n=2\/e.n=4\/e.n=8 then
   .get fun m=>.upd (fun m=>{ m with world:=m.world.tail,deeds:=m.deeds++[⟨e.n,v.n,m.world.headD 0⟩] }) (.ok (wV (m.world.headD 0)))
  else .er 14)
 else .er 13
def setSt(st:List (List Val))(i k:Nat)(v:Val):List (List Val):=st.modify i fun l=>l.set k v
def Cb(st:List (List Val))(i k:Nat):Val:=(st.getD i []).getD k default
def FL(p:List Mod)(r:Exp->X Val)(own:Int)(e:Exp):X Val:=
 if own<0 then .er 12 else
 let i:=E3 (p[own.toNat]?.getD default).vars e.s
 if i<0 then .er 12 else
 if e.op=18 then(r e.args[0]!).bind fun v=>.upd (fun m=>{ m with state:=setSt m.state own.toNat i.toNat v }) (.ok v)
 else .get fun m=>.ok (Cb m.state own.toNat i.toNat)
def zZ(p:List Mod)(r:Ev):Ev:=fun own ns vs e=>.get fun m=>
 if m.fuel<=0 then .er 16 else .upd (fun m=>{ m with fuel:=m.fuel-1 }) <|
 let n:=EJ e.op
 if n= -2\/(n≠-1/\n≠e.args.length)then .er 13
 else if e.op=0 then .ok (wV e.n)
 else if e.op=1 then(if e.n=0\/e.n=1 then .ok (lC (e.n== 1))else .er 13)
 else if e.op=2 then(match Ce ns vs e.s with|some v=>.ok v|none=>.er 12)
 else if e.op=3\/e.op=4\/e.op=5\/e.op=6\/e.op=7 then(r own ns vs e.args[0]!).bind fun a=>(r own ns vs e.args[1]!).bind fun b=>EM e.op a b
 else if e.op=8\/e.op=9 then(boolX (r own ns vs e.args[0]!)).bind fun x=>if x=(e.op== 9)then .ok (lC (e.op== 9))else(boolX (r own ns vs e.args[1]!)).bind fun y=>.ok (lC y)
 else if e.op=10 then(boolX (r own ns vs e.args[0]!)).bind fun x=>.ok (lC !x)
 else if e.op=11 then(boolX (r own ns vs e.args[0]!)).bind fun x=>if x=true then r own ns vs e.args[1]! else r own ns vs e.args[2]!
 else if e.op=12 then(r own ns vs e.args[0]!).bind fun v=>r own (ns++[e.s]) (vs++[v]) e.args[1]!
 else if e.op=13 then vI (r own ns vs) e
 else if e.op=14 then(r own ns vs e.args[0]!).bind fun v=>(match tX v.names v.values e.s with|some x=>if v.kind=2 then .ok x else .er 13|none=>.er 13)
 else if e.op=15 then BU p r own ns vs e
 else if e.op=16 then En (r own ns vs e.args[0]!) e
 else FL p (r own ns vs) own e
def B6(p:List Mod):Nat->Ev
 |0=>fun _ _ _ _=>.er 16
 |n+1=>zZ p (B6 p n)
end Go.Av.Ap
namespace Go.Av.Ap
def Rs.st{α:Type}:Rs α->Ms
 |.ok _ m=>m
 |.er _ m=>m
def Rs.on{α:Type}(f:Ms->Ms):Rs α->Rs α
 |.ok a m=>.ok a (f m)
 |.er e m=>.er e (f m)
def FI{α:Type}(y:X α):X α:=.get fun m=>if m.fuel<=0 then .er 16 else .upd (fun m=>{ m with fuel:=m.fuel-1 }) y
def Gm(n a:Int):X Val:=.get fun m=>.upd (fun m=>{ m with world:=m.world.tail,deeds:=m.deeds++[⟨n,a,m.world.headD 0⟩] }) (.ok (wV (m.world.headD 0)))
structure Closed (p:List Mod) (Q:Int->(α:Type)->X α->Prop):Prop where
 ok:∀(o:Int)(α:Type)(a:α),Q o α (.ok a)
 er:∀(o:Int)(α:Type)(e:Int),e≠0->Q o α (.er e)
 bind:∀(o:Int)(α β:Type)(x:X α)(f:α->X β),Q o α x->(∀a,Q o β (f a))->Q o β (x.bind f)
 tick:∀(o:Int)(α:Type)(y:X α),Q o α y->Q o α (FI y)
 act:∀(o n a:Int),Q o Val (Gm n a)
 set:∀(o:Int)(k:Nat)(v:Val),¬o<0->Q o Val (.upd (fun m=>{ m with state:=setSt m.state o.toNat k v }) (.ok v))
 get:∀(o:Int)(k:Nat),Q o Val (.get fun m=>.ok (Cb m.state o.toNat k))
 enter:∀(o a:Int)(r:Ev)(f:Fun)(l:List Val),¬a<0->a.toNat<p.length->f∈(p[a.toNat]?.getD default).funcs->(∀o ns vs e,Q o Val (r o ns vs e))->Q o Val (yT p r a f l)
def t7{p:List Mod}{a:Int}{s:bA}{f:Fun}(h:y9 p a s=some f):¬a<0/\a.toNat<p.length/\f∈(p[a.toNat]?.getD default).funcs:=by
 unfold y9 at h;by_cases h1:a<0
 ·simp[h1]at h
 ·rw[if_neg h1]at h;simp only at h;split at h
  ·cases h
  ·have hm:=IB h;refine⟨h1,?_,hm⟩;rcases HI a.toNat p.length with k|k
   ·exact k
   ·rw[Hz k]at hm;cases hm
def Fi{Q:Int->(α:Type)->X α->Prop}{o:Int}{α:Type}{c:Prop}[Decidable c](x y:X α)(h1:Q o α x)(h2:Q o α y):Q o α (if c then x else y):=by
 split
 ·exact h1
 ·exact h2
section
variable {p:List Mod} {Q:Int->(α:Type)->X α->Prop} (C:Closed p Q)
include C
theorem Closed.boolX{o:Int}{r:X Val}(h:Q o Val r):Q o Bool (boolX r):=by
 refine C.bind _ _ _ _ _ h fun v=>?_;split
 ·exact C.ok _ _ _
 ·exact C.er _ _ _ (by decide)
theorem Closed.listX{o:Int}{r:Exp->X Val}(h:∀e,Q o Val (r e)):∀l,Q o (List Val) (listX r l)
 |[]=>C.ok _ _ _
 |e:: l=>C.bind _ _ _ _ _ (h e) fun _=>C.bind _ _ _ _ _ (Closed.listX h l) fun _=>C.ok _ _ _
theorem Closed.step{r:Ev}(h:∀o ns vs e,Q o Val (r o ns vs e))(o:Int)(ns:List bA)(vs:List Val)(e:Exp):Q o Val (zZ p r o ns vs e):=by
 unfold zZ;refine C.tick _ _ _ ?_;have B:=fun{α β:Type} {x:X α} {f:α->X β}=>C.bind o α β x f;have I:=@Fi Q o;have er:=fun(α:Type) n (h:n≠0)=>C.er o α n h;have ok:=fun(α:Type) (a:α)=>C.ok o α a;refine I _ _ (er _ _ (by decide)) (I _ _ (ok _ _) (I _ _ (I _ _ (ok _ _) (er _ _ (by decide))) (I _ _ ?_ (I _ _ ?_ (I _ _ ?_ (I _ _ ?_ (I _ _ ?_ (I _ _ ?_ (I _ _ ?_ (I _ _ ?_ (I _ _ ?_ (I _ _ ?_ ?_))))))))))))
 ·split
  ·exact ok _ _
  ·exact er _ _ (by decide)
 ·refine B (h _ _ _ _) fun a=>B (h _ _ _ _) fun b=>?_;unfold EM;exact I _ _ (I _ _ (ok _ _) (er _ _ (by decide))) (I _ _ (I _ _ (ok _ _) (I _ _ (ok _ _) (I _ _ (ok _ _) (ok _ _)))) (er _ _ (by decide)))
 ·exact B (C.boolX (h _ _ _ _)) fun a=>I _ _ (ok _ _) (B (C.boolX (h _ _ _ _)) fun b=>ok _ _)
 ·exact B (C.boolX (h _ _ _ _)) fun a=>ok _ _
 ·exact B (C.boolX (h _ _ _ _)) fun a=>I _ _ (h _ _ _ _) (h _ _ _ _)
 ·exact B (h _ _ _ _) fun v=>h _ _ _ _
 ·unfold vI;exact I _ _ (I _ _ (B (C.listX (fun e=>h _ _ _ e) _) fun vs=>I _ _ (ok _ _) (er _ _ (by decide))) (er _ _ (by decide))) (er _ _ (by decide))
 ·refine B (h _ _ _ _) fun v=>?_;split
  ·exact I _ _ (ok _ _) (er _ _ (by decide))
  ·exact er _ _ (by decide)
 ·unfold BU;simp only;split
  ·exact er _ _ (by decide)
  ·rename_i f hf;obtain⟨h1,h2,h3⟩:=t7 hf;exact I _ _ (I _ _ (B (C.listX (fun e=>h _ _ _ e) _) fun l=>C.enter _ _ _ _ _ h1 h2 h3 h) (er _ _ (by decide))) (er _ _ (by decide))
 ·unfold En;exact B (h _ _ _ _) fun v=>I _ _ (I _ _ (C.act _ _ _) (er _ _ (by decide))) (er _ _ (by decide))
 ·unfold FL;split
  ·exact er _ _ (by decide)
  ·rename_i ho;exact I _ _ (er _ _ (by decide)) (I _ _ (B (h _ _ _ _) fun v=>C.set _ _ _ ho) (C.get _ _))
theorem Closed.eval:∀(n:Nat)(o:Int)(ns:List bA)(vs:List Val)(e:Exp),Q o Val (B6 p n o ns vs e)
 |0,_,_,_,_=>C.er _ _ _ (by decide)
 |n+1,o,ns,vs,e=>C.step (fun o ns vs e=>Closed.eval n o ns vs e) o ns vs e
end
end Go.Av.Ap
namespace Go.Av.Ap
def s5(p:List Mod):Bool:=(List.range p.length).any fun i=>(p.take i).any fun m=>m.name== (p[i]?.getD default).name
end Go.Av.Ap
namespace Go.Av.Ap
open Go Go.Av
def bv(n:Int):BitVec 64:=BitVec.ofInt 64 n
def gg(a b:Int):Prop:=bv a ||| bv b=bv b
def gg.refl(a:Int):gg a a:=BitVec.or_self
def gg.trans{a b c:Int}(h1:gg a b)(h2:gg b c):gg a c:=by
 unfold gg at *;rw[<- h2,<- BitVec.or_assoc,h1]
theorem uP(b:BitVec 64):bv (IntKind.i64.wrap b.toNat)=b:=by
 unfold bv;have h:IntKind.i64.wrap b.toNat=b.toInt:=by
  have h:=b.isLt;rw[BitVec.toInt_eq_toNat_cond];have h1:(2:Int) ^ IntKind.i64.bits=18446744073709551616:=rfl;have h2:(2:Int) ^ (IntKind.i64.bits-1)=9223372036854775808:=rfl;have h3:((2 ^ 64:Nat):Int)=18446744073709551616:=rfl;have h4:(b.toNat:Int) % 18446744073709551616=b.toNat:=by omega
  simp only[IntKind.wrap,h1,h2,h3,h4];have h5:IntKind.i64.signed=true:=rfl;rw[h5,IA];by_cases hb:2*b.toNat<2 ^ 64
  ·rw[Ht hb,if_neg (by simp;omega)]
  ·rw[if_neg hb,Ht (by simp;omega)]
 rw[h,BitVec.ofInt_toInt]
def BR(a b:Int):bv (lz a b)=bv a ||| bv b:=uP _
def rJ{a b:Int}(h:cS a b=0):gg a b:=by
 have h1:bv (cS a b)=bv a &&& ~~~ bv b:=uP _;rw[h]at h1;unfold gg;have h2:bv a &&& ~~~ bv b=0#64:=h1.symm
 ext i hi
 have:=Hs (fun x:BitVec 64=>x.getLsbD i) h2
 simp only[BitVec.getLsbD_and,BitVec.getLsbD_not,hi,Iq,IA,BitVec.getLsbD_zero]at this;rw[J9];simp only[BitVec.getLsbD_eq_getElem hi]at this;cases h1:(bv a)[i]<;>cases h2:(bv b)[i]<;>simp[h1,h2]at this |-
mutual
def Gv:Ty->Val->Prop
 |.mk k fs,v=>v.kind=k/\(fs≠[]->k=2)/\Cc fs v
def Cc:List (bA×Ty)->Val->Prop
 |[],_=>True
 |f:: fs,v=>Gu f v/\Cc fs v
def Gu:bA×Ty->Val->Prop
 |(n,t),v=>∃x,tX v.names v.values n=some x/\Gv t x
end
theorem cY{α:Type}{p:α->Bool}:{l:List α} ->{z:α} ->aJ p l=some z->z∈l/\p z=true
 |[],z,h=>by cases h
 | x:: l,z,h=>by
  simp only[aJ]at h;split at h
  ·rename_i y hy;cases h
   have:=cY hy
   exact⟨Ij _ this.1,this.2⟩
  ·cases hx:p x with
   |true=>
    rw[hx]at h;cases h;exact⟨Ic,hx⟩
   |false=>rw[hx]at h;cases h
def oc{f:bi}{l:List bi}{g:bi}(h:xj f l=some g):g.1=f.1/\∃z,z∈l/\z.1=f.1/\ml f.2 z.2=some g.2:=by
 obtain⟨n,t⟩:=f;simp only[xj]at h;split at h
 ·rename_i z hz;split at h
  ·rename_i u hu;cases h
   have:=cY hz
   exact⟨rfl,z,this.1,HX.1 this.2,hu⟩
  ·cases h
 ·cases h
theorem kP(l:List bi)(g:bi):(fs:List bi)->g∈eQ fs l->∃f∈fs,xj f l=some g
 |[],h=>by simp[eQ]at h
 | f:: fs,h=>by
  simp only[eQ,HV]at h;rcases h with h|h
  ·split at h
   ·rename_i x hx;simp only[Im]at h;exact⟨f,Ic,by rw[hx,h]⟩
   ·cases h
  ·obtain⟨f',h1,h2⟩:=kP l g fs h;exact⟨f',Ij _ h1,h2⟩
def eU(a b:Ty):aO a b=true↔a.kind=b.kind/\∀f∈b.fields,∃z,aJ (fun z=>z.1== f.1) a.fields=some z/\aO z.2 f.2=true:=by
 rw[i8];simp only[Hq,HX,Hx];refine and_congr_right fun _=>⟨fun h f hf=>?_,fun h f hf=>?_⟩
 ·have:=h f hf
  split at this
  ·rename_i z hz;exact⟨z,hz,this⟩
  ·cases this
 ·obtain⟨z,h1,h2⟩:=h f hf;rw[h1];exact h2
def rq{a b c:Ty}(h1:aO a b=true)(h2:aO b c=true):aO a c=true:=p7 _ a b c (Hu _) h1 h2
theorem pk{α:Type}(p:α->Bool):(a b:List α)->aJ p (a++b)=match aJ p b with
  |some y=>some y
  |none=>aJ p a
 |[],b=>by
  simp only[Ir,aJ];split<;>simp_all
 |x:: a,b=>by
  simp only[H8,aJ,pk p a b];cases aJ p b<;>rfl
theorem sc{α:Type}{p:α->Bool}:{l:List α} ->aJ p l=none->∀x∈l,p x=false
 | y:: l,h,x,hx=>by
  simp only[aJ]at h;cases hl:aJ p l with
  |some z=>rw[hl]at h;cases h
  | none=>
   rw[hl]at h;rcases HO.1 hx with rfl|hx
   ·cases hp:p x with
    |false=>rfl
    |true=>rw[hp]at h;cases h
   ·exact sc hl x hx
theorem pn(l:List bi)(s:bA):(fs:List bi)->{z:bi} ->aJ (fun z=>z.1== s) fs=some z->{g:bi} ->xj z l=some g->aJ (fun z=>z.1== s) (eQ fs l)=some g
 | f:: fs,z,h,g,hg=>by
  simp only[aJ]at h;simp only[eQ];rw[pk];cases hl:aJ (fun z:bi=>z.1== s) fs with
  |some y=>
   rw[hl]at h;cases h;rw[pn l s fs hl hg]
  | none=>
   rw[hl]at h;have hno:aJ (fun z:bi=>z.1== s) (eQ fs l)=none:=jL fun x hx=>by
    obtain⟨f',h1,h2⟩:=kP l x fs hx;rw[(oc h2).1];exact sc hl f' h1
   rw[hno];cases hp:f.1== s with
   |false=>rw[hp]at h;cases h
   |true=>
    rw[hp]at h;cases h;rw[hg];have e:(g.1== s)=true:=by rw[(oc hg).1];exact hp
    simp only[aJ,e,Hr]
def uG(a b:Ty):ml a b=if a.kind=b.kind then some (.mk a.kind (eQ a.fields b.fields))else none:=by cases a;rfl
theorem lD(z:bi)(l:List bi):xj z l=match aJ (fun x=>x.1== z.1) l with
  |some x=>(match ml z.2 x.2 with|some u=>some (z.1,u)|none=>none)
  |none=>none:=by
 obtain⟨n,t⟩:=z;simp only[xj]
 all_goals (
  cases aJ (fun z:bi=>z.1== n) l with
  |none=>rfl
  |some x=>cases ml t x.2<;>rfl)
def Bu:∀(n:Nat)(a b a' b' u:Ty),SizeOf.sizeOf a<=n->aO a' a=true->aO b' b=true->ml a b=some u->∃u',ml a' b'=some u'/\aO u' u=true:=by
 intro n
 induction n with
 |zero=>intro a;intros;cases a;simp at *
 | succ n ih=>
  intro a b a' b' u hn ha hb hu;rw[eU]at ha hb;rw[uG]at hu;split at hu
  ·rename_i hk;cases hu;refine⟨_,by rw[uG,Ht (by rw[ha.1,hb.1,hk])],?_⟩;rw[eU];refine⟨ha.1,fun g hg=>?_⟩;obtain⟨f,hf,h2⟩:=kP _ g _ hg;have h2':=h2;rw[lD]at h2;split at h2
   ·rename_i z hz;split at h2
    ·rename_i v hv;cases h2;obtain⟨z1,g1,g2⟩:=ha.2 f hf;obtain⟨h3,h4⟩:=cY hz;obtain⟨z2,g3,g4⟩:=hb.2 z h3;have h4:z.1=f.1:=HX.1 h4;rw[h4]at g3;have hsz:=y8 hf;obtain⟨w,w1,w2⟩:=ih f.2 z.2 z1.2 z2.2 v (by omega) g2 g4 hv;have hz1:z1.1=f.1:=HX.1 (cY g1).2;refine⟨(z1.1,w),pn _ _ _ g1 (by rw[lD,hz1,g3];simp only[w1]),w2⟩
    ·cases h2
   ·cases h2
  ·cases hu
theorem oK{α β:Type}{F:α->β->Bool}:{a:List α} ->{b:List β} ->cd F a b=true->a.length=b.length
 |[],[],_=>rfl
 |x:: a,y:: b,h=>by
  simp only[cd,Hq]at h;simp only[HG,oK h.2]
def jY{l' l:List Ty}(h:cd aO l' l=true)(i:Nat):aO l'[i]! l[i]! = true:=by
 induction l' generalizing l i with
 |nil=>cases l with
  |nil=>simp;rfl
  |cons y l=>cases h
 | cons x l' ih=>cases l with
  |nil=>cases h
  |cons y l=>
   simp only[cd,Hq]at h;cases i with
   |zero=>simpa using h.1
   |succ i=>simpa using ih h.2 i
theorem jy(k:Int):{l' l:List Ty} ->cd aO l' l=true->gx k l'=gx k l
 |[],[],_=>rfl
 |x:: l',y:: l,h=>by
  simp only[cd,Hq]at h;have ih:=jy k h.2;unfold gx at ih |-;rw[Ip,Ip,ih,((eU _ _).1 h.1).1]
theorem pP:(ns:List bA)->(l' l:List Ty)->cd aO l' l=true->∀f∈ns.zip l,∃t,(f.1,t)∈ns.zip l'/\aO t f.2=true
 | n:: ns,x:: l',y:: l,h,f,hf=>by
  simp only[cd,Hq]at h;rw[J4]at hf |-;rcases HO.1 hf with rfl|hf
  ·exact⟨x,Ic,h.1⟩
  ·obtain⟨t,h1,h2⟩:=pP ns l' l h.2 f hf;exact⟨t,Ij _ h1,h2⟩
 |[],_,_,_,f,hf=>by simp at hf
 |n:: ns,[],[],_,f,hf=>by simp at hf
theorem tb{R:bA->bA->Prop}:(ns:List bA)->(l:List Ty)->ns.Pairwise R->(ns.zip l).Pairwise fun x y=>R x.1 y.1
 |[],_,_=>by simp
 |_:: _,[],_=>by simp
 |n:: ns,t:: l,h=>by
  rw[J4];obtain⟨h1,h2⟩:=IV.1 h;refine IV.2 ⟨fun x hx=>h1 _ (List.of_mem_zip hx).1,tb ns l h2⟩
def un{e:Exp}(he:iW e=true){l' l:List Ty}(h:cd aO l' l=true){t:Ty}(ht:bD e l=some t):∃t',bD e l'=some t'/\aO t' t=true:=by
 have b0:∀k,aO (.mk k []) (.mk k [])=true:=fun k=>by rw[eU];exact⟨rfl,fun f hf=>by cases hf⟩
 unfold bD at ht |-;rw[jy 0 h,jy 1 h];split at ht
 ·rw[Ht ‹_›];split at ht
  ·cases ht;rw[Ht ‹_›];exact⟨_,rfl,b0 _⟩
  ·cases ht
 rw[if_neg ‹_›];split at ht
 ·rw[Ht ‹_›];cases ht;exact⟨_,rfl,b0 _⟩
 rw[if_neg ‹_›];split at ht
 ·rw[Ht ‹_›];split at ht
  ·cases ht;rw[Ht ‹_›];exact⟨_,rfl,b0 _⟩
  ·cases ht
 rw[if_neg ‹_›];split at ht
 ·rw[Ht ‹_›];split at ht
  ·cases ht;rw[Ht ‹_›];exact⟨_,rfl,b0 _⟩
  ·cases ht
 rw[if_neg ‹_›];split at ht
 ·rw[Ht ‹_›];split at ht
  ·cases ht;rw[Ht ‹_›];exact⟨_,rfl,b0 _⟩
  ·cases ht
 rw[if_neg ‹_›];split at ht
 ·rw[Ht ‹_›];cases hu:ml l[1]! l[2]! with
  |none=>rw[hu]at ht;cases ht
  |some u=>
   rw[hu]at ht;obtain⟨u',h1,h2⟩:=Bu _ _ _ _ _ _ (Hu _) (jY h 1) (jY h 2) hu;rw[h1];simp only at ht |-;rw[((eU _ _).1 (jY h 0)).1];split at ht
   ·cases ht;rw[Ht ‹_›];exact⟨_,rfl,h2⟩
   ·cases ht
 rw[if_neg ‹_›];split at ht
 ·rename_i h13;rw[Ht h13];cases ht;refine⟨_,rfl,?_⟩;have hns:gE di e.names=true:=by
   unfold iW ew qA at he;simp[h13]at he;exact he.2.1.2
  have hp:=tb e.names l' (i7 (nm:=fun s:bA=>s) (fun x y h=>(gR _ _).1 h) _ hns);rw[eU];refine⟨rfl,fun f hf=>?_⟩;obtain⟨u,h1,h2⟩:=pP e.names l' l h f hf;have h3:=lp (nm:=fun f:bi=>f.1) hp h1;exact⟨_,h3,h2⟩
 rw[if_neg ‹_›];split at ht
 ·rw[Ht ‹_›];cases hz:aJ (fun z:bi=>z.1== e.s) l[0]!.fields with
  |none=>rw[hz]at ht;cases ht
  |some z=>
   rw[hz]at ht;cases ht;obtain⟨h1,h2⟩:=cY hz;obtain⟨y,h3,h4⟩:=((eU _ _).1 (jY h 0)).2 z h1;have h2:z.1=e.s:=HX.1 h2;rw[h2]at h3;rw[h3];exact⟨_,rfl,h4⟩
 rw[if_neg ‹_›];cases ht;exact⟨_,rfl,b0 _⟩
def fW(e:Exp):Prop:=∃k,cM k e=true
def fW.shape{e:Exp}(h:fW e):iW e=true:=by
 obtain⟨k,h⟩:=h;cases k with
 |zero=>cases h
 |succ k=>rw[gt,Hq]at h;exact h.1
def fW.kid{e:Exp}(h:fW e){x:Exp}(hx:x∈e.args):fW x:=by
 obtain⟨k,h⟩:=h;cases k with
 |zero=>cases h
 |succ k=>rw[gt,Hq,Hx]at h;exact⟨k,h.2 x hx⟩
def uw:fW default:=⟨1,by decide +kernel⟩
def fW.nth{e:Exp}(h:fW e)(i:Nat):fW e.args[i]!:=by
 by_cases hi:i<e.args.length
 ·rw[HP e.args i hi];exact h.kid (HD hi)
 ·rw[getElem!_neg e.args i hi];exact uw
structure CLe (c c':Tcx):Prop where
 vars:c'.vars=c.vars
 vok:∀z∈c.vars,aO z.2 z.2=true
 call:∀e s,bS c e=some s->∃s',bS c' e=some s'/\cd aO s.1 s'.1=true/\aO s'.2.1 s.2.1=true/\gg s'.2.2 s.2.2
def Di(f' f:bi):Bool:=f'.1== f.1&&aO f'.2 f.2
theorem vt{s:bA}:{ls' ls:List bi} ->cd Di ls' ls=true->(aJ (fun z=>z.1== s) ls=none->aJ (fun z=>z.1== s) ls'=none)/\∀z,aJ (fun z=>z.1== s) ls=some z->∃z',aJ (fun z=>z.1== s) ls'=some z'/\aO z'.2 z.2=true
 |[],[],_=>⟨fun _=>rfl,fun z h=>by cases h⟩
 | x:: ls',y:: ls,h=>by
  simp only[cd,Hq,Di,HX]at h;obtain⟨⟨h1,h2⟩,h3⟩:=h;obtain⟨i1,i2⟩:=vt (s:=s) h3;simp only[aJ];cases hl:aJ (fun z:bi=>z.1== s) ls with
  |some z=>
   obtain⟨z',e1,e2⟩:=i2 z hl;rw[e1];exact⟨fun h=>(by cases h),fun w hw=>by cases hw;exact⟨z',rfl,e2⟩⟩
  |none=>
   rw[i1 hl,h1];cases y.1== s with
   |true=>exact⟨fun h=>(by cases h),fun z hz=>by cases hz;exact⟨x,rfl,h2⟩⟩
   |false=>exact⟨fun _=>rfl,fun z hz=>by cases hz⟩
theorem q6{α β:Type}{F:α->β->Bool}:{a:List α} ->{b:List β} ->cd F a b=true->∀ {x y},F x y=true->cd F (a++[x]) (b++[y])=true
 |[],[],_,x,y,h=>by simp[cd,h]
 |z:: a,w:: b,h,x,y,hxy=>by
  simp only[cd,Hq]at h;simp only[H8,cd,Hq];exact⟨h.1,q6 h.2 hxy⟩
def oQ:{a b c:List Ty} ->cd aO a b=true->cd aO b c=true->cd aO a c=true:=fun h1 h2=>mG (F:=aO) (fun _ _ _ h h'=>rq h h') h1 h2
def vE{a a' b b':Int}(h1:gg a' a)(h2:gg b' b):gg (lz a' b') (lz a b):=by
 unfold gg at *;rw[BR,BR,<- h1,<- h2]
 ext i hi
 simp only[J9];cases (bv a)[i]<;>cases (bv a')[i]<;>cases (bv b)[i]<;>cases (bv b')[i]<;>rfl
def s4{a b:Int}(h:gg a b):cS a b=0:=by
 unfold cS;have:BitVec.ofInt 64 a &&& ~~~ BitVec.ofInt 64 b=0#64:=by
  have h:bv a ||| bv b=bv b:=h;show bv a &&& ~~~ bv b=0#64
  ext i hi
  have h3:=Hs (fun x:BitVec 64=>x[i]'hi) h;simp only[J9]at h3;simp only[BitVec.getElem_and,BitVec.getElem_not,BitVec.getElem_zero];cases h1:(bv a)[i]<;>cases h2:(bv b)[i]<;>simp[h1,h2]at h3 |-
 rw[this];rfl
def xq(x x':df Ty):Prop:=∀n n' t m,gg n' n->x n= .ok t m->∃t' m',x' n'= .ok t' m'/\aO t' t=true/\gg m' m
def El(x x':df (List Ty)):Prop:=∀n n' l m,gg n' n->x n= .ok l m->∃l' m',x' n'= .ok l' m'/\cd aO l' l=true/\gg m' m
theorem jP{r r':Exp->df Ty}:(es:List Exp)->(∀e∈es,xq (r e) (r' e))->El (bU r es) (bU r' es)
 |[],_=>fun n n' l m hn h=>by
  cases h;exact⟨_,_,rfl,rfl,hn⟩
 | e:: es,H=>fun n n' l m hn h=>by
  simp only[bU,df.bind]at h|-;cases h1:r e n with
  |er b q=>rw[h1]at h;cases h
  | ok t q=>
   rw[h1]at h;obtain⟨t',q',e1,e2,e3⟩:=H e Ic n n' t q hn h1;rw[e1];simp only at h|-;cases h2:bU r es q with
   |er b q2=>rw[h2]at h;cases h
   |ok ts q2=>
    rw[h2]at h;obtain⟨ts',q2',f1,f2,f3⟩:=jP es (fun e he=>H e (Ij _ he)) q q' ts q2 e3 h2;rw[f1];cases h;exact⟨_,_,rfl,by simp only[cd,e2,f2,JJ],f3⟩
theorem pM{c c':Tcx}(C:CLe c c'):∀(d:Nat)(ls' ls:List bi)(e:Exp),fW e->cd Di ls' ls=true->xq (a6 c d ls e) (a6 c' d ls' e)
 |0,_,_,_,_,_=>fun n n' t m _ h=>by cases h
 | d + 1,ls',ls,e,he,hls=>by
  have H:∀(ls' ls:List bi)(e:Exp),fW e->cd Di ls' ls=true->xq (a6 c d ls e) (a6 c' d ls' e):=pM C d;intro n n' t m hn h;have h:cw c (a6 c d) ls e n= .ok t m:=h;show ∃t' m',cw c' (a6 c' d) ls' e n'= .ok t' m'/\_;by_cases h2:e.op=2
  ·rw[ij h2]at h|-;cases hz:aJ (fun z:bi=>z.1== e.s) ls with
   |none=>rw[hz]at h;cases h
   |some z=>
    rw[hz]at h;cases h;obtain⟨z',e1,e2⟩:=(vt hls).2 z hz;rw[e1];exact⟨_,_,rfl,e2,hn⟩
  by_cases h12:e.op=12
  ·rw[ig h12]at h|-;unfold df.bind at h|-;cases h1:a6 c d ls e.args[0]! n with
   |er b q=>rw[h1]at h;cases h
   |ok u q=>
    rw[h1]at h;obtain⟨u',q',e1,e2,e3⟩:=H ls' ls _ (he.nth 0) hls n n' u q hn h1;rw[e1];exact H _ _ _ (he.nth 1) (q6 hls (by simp[Di,e2])) q q' t m e3 h
  by_cases h17:e.op=17\/e.op=18
  ·rw [ie h17]at h|-;rw[C.vars];cases hz:aJ (fun z:bi=>z.1== e.s) c.vars with
   |none=>rw[hz]at h;cases h
   | some z=>
    rw[hz]at h;simp only at h|-;by_cases h18:e.op=18
    ·rw[Ht h18]at h|-;unfold df.bind at h|-;cases h1:a6 c d ls e.args[0]! n with
     |er b q=>rw[h1]at h;cases h
     | ok u q=>
      rw[h1]at h;obtain⟨u',q',e1,e2,e3⟩:=H ls' ls _ (he.nth 0) hls n n' u q hn h1;rw[e1];simp only at h|-;split at h
      ·rename_i hb;cases h;rw[Ht (rq e2 hb)];exact⟨_,_,rfl,C.vok z (cY hz).1,e3⟩
      ·cases h
    ·rw[if_neg h18]at h|-;cases h;exact⟨_,_,rfl,C.vok z (cY hz).1,hn⟩
  by_cases h15:e.op=15
  ·rw [gu h15]at h|-;cases hs:bS c e with
   |none=>rw[hs]at h;cases h
   | some s=>
    rw[hs]at h;obtain⟨s',e1,e2,e3,e4⟩:=C.call e s hs;rw[e1];simp only at h|-;split at h
    ·rename_i hl;rw[Ht (by rw[<- hl,oK e2])];unfold df.bind at h|-;cases h1:bU (a6 c d ls) e.args n with
     |er b q=>rw[h1]at h;cases h
     | ok l q=>
      rw[h1]at h;obtain⟨l',q',f1,f2,f3⟩:=jP e.args (fun x hx=>H ls' ls x (he.kid hx) hls) n n' l q hn h1;rw[f1];simp only at h|-;split at h
      ·rename_i hb;cases h;rw[Ht (oQ (oQ f2 hb) e2)];exact⟨_,_,rfl,e3,vE f3 e4⟩
      ·cases h
    ·cases h
  rw[gw h2 h12 h17 h15]at h|-;unfold df.bind at h|-;cases h1:bU (a6 c d ls) e.args n with
  |er b q=>rw[h1]at h;cases h
  | ok l q=>
   rw[h1]at h;obtain⟨l',q',f1,f2,f3⟩:=jP e.args (fun x hx=>H ls' ls x (he.kid hx) hls) n n' l q hn h1;rw[f1];simp only at h|-;cases hp:bD e l with
   |none=>rw[ge hp]at h;cases h
   |some u=>
    rw[fc hp]at h;cases h;obtain⟨u',g1,g2⟩:=un he.shape f2 hp;rw[fc g1];refine⟨_,_,rfl,g2,?_⟩;split
    ·exact vE f3 (gg.refl _)
    ·exact f3
def nY{a b:Ty}(h:jp a b=true):aO a b=true:=by
 unfold jp at h;simp only[Hq]at h;exact h.2
theorem q7{α β:Type}{F G:α->β->Bool}(h:∀x y,F x y=true->G x y=true):{a:List α} ->{b:List β} ->cd F a b=true->cd G a b=true
 |[],[],_=>rfl
 |x:: a,y:: b,g=>by
  simp only[cd,Hq]at g |-;exact⟨h x y g.1,q7 h g.2⟩
def vW{l:List bi}(h:∀z∈l,aH z.2=true):cd Di l l=true:=kT fun z hz=>by
 unfold Di;rw[fv 4 z.2 (h z hz)];simp
mutual
def GQ:Ty->Exp
 |.mk k fs=>if k=0 then .mk 0 0 [] [] [] []else if k=1 then .mk 1 0 [] [] [] []else .mk 13 0 [] [] (fs.map (·.1)) (Ck fs)
def Ck:List (bA×Ty)->List Exp
 |[]=>[]
 |f:: fs=>GR f:: Ck fs
def GR:bA×Ty->Exp
 |(_,t)=>GQ t
end
theorem nP:(d:Nat)->(t:Ty)->b9 d t=true->b9 (d+1) t=true
 |0,_,h=>by cases h
 |d+1,t,h=>by
  rw[dp]at h|-;simp only[Hq,Hx]at h|-;exact⟨h.1,fun f hf=>⟨(h.2.1 f hf).1,nP d f.2 (h.2.1 f hf).2⟩,h.2.2⟩
def xy(a b:Int):Int:=IntKind.i64.wrap (BitVec.ofInt 64 a &&& BitVec.ofInt 64 b).toNat
theorem wrap64(n:Nat)(h:n<18446744073709551616):IntKind.i64.wrap (n:Int)=if 9223372036854775808<=n then(n:Int)-18446744073709551616 else(n:Int):=by
 have e:IntKind.i64.wrap (n:Int)=if decide ((n:Int) % 18446744073709551616 >= 9223372036854775808)=true then(n:Int) % 18446744073709551616-18446744073709551616 else(n:Int) % 18446744073709551616:=rfl;rw[e];have:(n:Int) % 18446744073709551616=n:=by omega
 rw[this];simp only[Hy];split<;>split<;>omega
def Bw{a:Int}(h1:-9223372036854775808<=a)(h2:a<=9223372036854775807):IntKind.i64.wrap ((BitVec.ofInt 64 a).toNat:Int)=a:=by
 have hv:=(BitVec.ofInt 64 a).isLt;rw[wrap64 _ hv,BitVec.toNat_ofInt];simp;split<;>omega
def mJ{a b:Int}(h1:-9223372036854775808<=a)(h2:a<=9223372036854775807)(h:(cS a b== 0)=true):xy a b=a:=by
 rw[rI]at h;have:BitVec.ofInt 64 a &&& BitVec.ofInt 64 b=BitVec.ofInt 64 a:=by
  generalize BitVec.ofInt 64 a=x at *;generalize BitVec.ofInt 64 b=y at *;apply BitVec.eq_of_getLsbD_eq;intro i hi;have e1:=Hs (·.getLsbD i) h;simp only[BitVec.getLsbD_and,BitVec.getLsbD_not,hi,Iq,IA,BitVec.getLsbD_zero]at e1 |-;generalize x.getLsbD i=p at *;generalize y.getLsbD i=q at *;clear h;revert p q;decide
 unfold xy;rw[this,Bw h1 h2]
inductive NoRec:Exp->Prop
 |mk (e:Exp) (h:e.op≠13) (k:∀x∈e.args,NoRec x):NoRec e
def NoRec.op{e:Exp}(h:NoRec e):e.op≠13:=by cases h;assumption
def NoRec.kid{e:Exp}(h:NoRec e){x:Exp}(hx:x∈e.args):NoRec x:=by
 cases h with
 |mk _ _ k=>exact k x hx
def NoRec.nth{e:Exp}(h:NoRec e)(i:Nat):NoRec e.args[i]!:=by
 by_cases hi:i<e.args.length
 ·rw[HP e.args i hi];exact h.kid (HD hi)
 ·rw[getElem!_neg e.args i hi];exact .mk _ (by decide) fun x hx=>by cases hx
def rm{l:List bi}(h:(l.map (·.1)).Pairwise fun a b=>aR a b=true):gE (fun a b:bi=>di a.1 b.1) l=true:=by
 induction l with
 |nil=>rfl
 | cons x l ih=>cases l with
  |nil=>rfl
  |cons y l=>
   simp only[H3]at h ih;obtain⟨h1,h2⟩:=IV.1 h;simp only[gE,Hq];exact⟨(gR _ _).2 (h1 y.1 Ic),ih h2⟩
def sA{l:List bi}(h:gE (fun a b:bi=>di a.1 b.1) l=true):(l.map (·.1)).Pairwise fun a b=>aR a b=true:=by
 rw[J7];exact i7 (nm:=fun f:bi=>f.1) (fun x y h=>(gR _ _).1 h) l h
theorem s8(l:List bi):(fs:List bi)->((eQ fs l).map (·.1)).Sublist (fs.map (·.1))
 |[]=>by simp[eQ]
 | f:: fs=>by
  have ih:=s8 l fs;simp only[eQ,Kn,H3];cases h:xj f l with
  |none=>exact ih.cons _
  |some g=>
   have e:=(oc h).1;simp only[H3,List.map_nil,List.singleton_append,e];exact ih.cons_cons _
theorem s9:(d:Nat)->(a b u:Ty)->b9 d a=true->ml a b=some u->b9 d u=true
 |0,_,_,_,h,_=>by cases h
 | d + 1,a,b,u,h,hu=>by
  rw[uG]at hu;split at hu
  ·cases hu;rw[dp]at h|-;simp only[Hq,Hx,Hy,It,HX]at h|-;obtain⟨⟨⟨⟨g0,g1⟩,h3⟩,h6⟩,h4,h5⟩:=h;have hs:=s8 b.fields a.fields;have hl:(eQ a.fields b.fields).length<=a.fields.length:=by
    have:=hs.length_le
    simpa using this
   refine⟨⟨⟨⟨g0,g1⟩,?_⟩,?_⟩,?_,?_⟩
   ·show (eQ a.fields b.fields).length<=8;omega
   ·rcases h6 with h|h
    ·exact .inl h
    ·exact .inr (by show (eQ a.fields b.fields).length=0;omega)
   ·intro g hg;obtain⟨f,hf,e⟩:=kP _ g _ hg;have e':=e;rw[lD]at e';split at e'
    ·rename_i z hz;split at e'
     ·rename_i v hv;cases e';exact⟨(h4 f hf).1,s9 d f.2 z.2 v (h4 f hf).2 hv⟩
     ·cases e'
    ·cases e'
   ·exact rm ((sA h5).sublist hs)
  ·cases hu
structure CRight (c:Tcx):Prop where
 vars:∀z∈c.vars,aH z.2=true
 res:∀e s,bS c e=some s->aH s.2.1=true
def wY:aH default=true:=by decide +kernel
def px{l:List Ty}(h:∀t∈l,aH t=true)(i:Nat):aH l[i]! = true:=by
 by_cases hi:i<l.length
 ·rw[HP l i hi];exact h _ (HD hi)
 ·rw[getElem!_neg l i hi];exact wY
def sC{e:Exp}(he:e.op≠13){l:List Ty}(hl:∀t∈l,aH t=true){t:Ty}(h:bD e l=some t):aH t=true:=by
 have r0:aH (.mk 0 [])=true:=by decide +kernel
 have r1:aH (.mk 1 [])=true:=by decide +kernel
 unfold bD at h;split at h
 ·split at h
  ·cases h;exact r0
  ·cases h
 split at h
 ·cases h;exact r1
 split at h
 ·split at h
  ·cases h;exact r1
  ·cases h
 split at h
 ·split at h
  ·cases h;exact r1
  ·cases h
 split at h
 ·split at h
  ·cases h;exact r1
  ·cases h
 split at h
 ·cases hu:ml l[1]! l[2]! with
  |none=>rw[hu]at h;cases h
  |some u=>
   rw[hu]at h;simp only at h;split at h
   ·cases h;exact s9 4 _ _ _ (px hl 1) hu
   ·cases h
 split at h
 ·cases hz:aJ (fun z:bi=>z.1== e.s) l[0]!.fields with
  |none=>rw[hz]at h;cases h
  |some z=>
   rw[hz]at h;cases h;have h0:=px hl 0;have h0:b9 (3+1) l[0]! = true:=h0;rw[dp]at h0;simp only[Hq,Hx]at h0;exact nP 3 _ (h0.2.1 z (cY hz).1).2
 cases h;exact r0
theorem nq{r:Exp->df Ty}:(es:List Exp)->(∀e∈es,∀n t m,r e n= .ok t m->aH t=true)->∀n l m,bU r es n= .ok l m->∀t∈l,aH t=true
 |[],_,n,l,m,h,t,ht=>by
  cases h;cases ht
 | e:: es,H,n,l,m,h,t,ht=>by
  simp only[bU,df.bind]at h;cases h1:r e n with
  |er b q=>rw[h1]at h;cases h
  | ok u q=>
   rw[h1]at h;simp only at h;cases h2:bU r es q with
   |er b q2=>rw[h2]at h;cases h
   |ok ts q2=>
    rw[h2]at h;cases h;rcases HO.1 ht with rfl|ht
    ·exact H e Ic n _ q h1
    ·exact nq es (fun e he=>H e (Ij _ he)) q ts _ h2 t ht
theorem jV{c:Tcx}(C:CRight c):∀(d:Nat)(ls:List bi)(e:Exp),NoRec e->(∀z∈ls,aH z.2=true)->∀n t m,a6 c d ls e n= .ok t m->aH t=true
 |0,_,_,_,_,n,t,m,h=>by cases h
 | d + 1,ls,e,he,hls,n,t,m,h=>by
  have H:=jV C d;have h:cw c (a6 c d) ls e n= .ok t m:=h;by_cases h2:e.op=2
  ·rw[ij h2]at h;cases hz:aJ (fun z:bi=>z.1== e.s) ls with
   |none=>rw[hz]at h;cases h
   |some z=>
    rw[hz]at h;cases h;exact hls z (cY hz).1
  by_cases h12:e.op=12
  ·rw[ig h12]at h;unfold df.bind at h;cases h1:a6 c d ls e.args[0]! n with
   |er b q=>rw[h1]at h;cases h
   | ok u q=>
    rw[h1]at h;refine H _ _ (he.nth 1) (fun z hz=>?_) _ _ _ h;rcases HV.1 hz with hz|hz
    ·exact hls z hz
    ·rw[Im]at hz;subst hz;exact H _ _ (he.nth 0) hls _ _ _ h1
  by_cases h17:e.op=17\/e.op=18
  ·rw [ie h17]at h;cases hz:aJ (fun z:bi=>z.1== e.s) c.vars with
   |none=>rw[hz]at h;cases h
   | some z=>
    rw[hz]at h;have hr:=C.vars z (cY hz).1;simp only at h;by_cases h18:e.op=18
    ·rw[Ht h18]at h;unfold df.bind at h;cases h1:a6 c d ls e.args[0]! n with
     |er b q=>rw[h1]at h;cases h
     |ok u q=>
      rw[h1]at h;simp only at h;split at h
      ·cases h;exact hr
      ·cases h
    ·rw[if_neg h18]at h;cases h;exact hr
  by_cases h15:e.op=15
  ·rw [gu h15]at h;cases hs:bS c e with
   |none=>rw[hs]at h;cases h
   | some s=>
    rw[hs]at h;simp only at h;split at h
    ·unfold df.bind at h;cases h1:bU (a6 c d ls) e.args n with
     |er b q=>rw[h1]at h;cases h
     |ok l q=>
      rw[h1]at h;simp only at h;split at h
      ·cases h;exact C.res e s hs
      ·cases h
    ·cases h
  rw[gw h2 h12 h17 h15]at h;unfold df.bind at h;cases h1:bU (a6 c d ls) e.args n with
  |er b q=>rw[h1]at h;cases h
  | ok l q=>
   rw[h1]at h;simp only at h;cases hp:bD e l with
   |none=>rw[ge hp]at h;cases h
   |some u=>
    rw[fc hp]at h;cases h;exact sC he.op (nq e.args (fun x hx n t m h=>H ls x (he.kid hx) hls n t m h) n l q h1) hp
def lG(n:Int):Prop:=-9223372036854775808<=n/\n<=9223372036854775807
def vT(a b:Int):lG (lz a b):=by
 unfold lz;have h:=(BitVec.ofInt 64 a ||| BitVec.ofInt 64 b).isLt;rw[wrap64 _ h];unfold lG;split<;>omega
theorem pp{r:Exp->df Ty}:(es:List Exp)->(∀e∈es,∀n t m,lG n->r e n= .ok t m->lG m)->∀n l m,lG n->bU r es n= .ok l m->lG m
 |[],_,n,l,m,hn,h=>by
  cases h;exact hn
 | e:: es,H,n,l,m,hn,h=>by
  simp only[bU,df.bind]at h;cases h1:r e n with
  |er b q=>rw[h1]at h;cases h
  | ok u q=>
   rw[h1]at h;simp only at h;cases h2:bU r es q with
   |er b q2=>rw[h2]at h;cases h
   |ok ts q2=>
    rw[h2]at h;cases h;exact pp es (fun e he=>H e (Ij _ he)) q ts _ (H e Ic n _ q hn h1) h2
theorem pN(c:Tcx):∀(d:Nat)(ls:List bi)(e:Exp)(n:Int)(t:Ty)(m:Int),lG n->a6 c d ls e n= .ok t m->lG m
 |0,_,_,n,t,m,_,h=>by cases h
 | d + 1,ls,e,n,t,m,hn,h=>by
  have H:=pN c d;have h:cw c (a6 c d) ls e n= .ok t m:=h;by_cases h2:e.op=2
  ·rw[ij h2]at h;split at h
   ·cases h;exact hn
   ·cases h
  by_cases h12:e.op=12
  ·rw[ig h12]at h;unfold df.bind at h;cases h1:a6 c d ls e.args[0]! n with
   |er b q=>rw[h1]at h;cases h
   |ok u q=>
    rw[h1]at h;exact H _ _ _ _ _ (H _ _ _ _ _ hn h1) h
  by_cases h17:e.op=17\/e.op=18
  ·rw [ie h17]at h;cases hz:aJ (fun z:bi=>z.1== e.s) c.vars with
   |none=>rw[hz]at h;cases h
   | some z=>
    rw[hz]at h;simp only at h;by_cases h18:e.op=18
    ·rw[Ht h18]at h;unfold df.bind at h;cases h1:a6 c d ls e.args[0]! n with
     |er b q=>rw[h1]at h;cases h
     |ok u q=>
      rw[h1]at h;simp only at h;split at h
      ·cases h;exact H _ _ _ _ _ hn h1
      ·cases h
    ·rw[if_neg h18]at h;cases h;exact hn
  by_cases h15:e.op=15
  ·rw [gu h15]at h;cases hs:bS c e with
   |none=>rw[hs]at h;cases h
   | some s=>
    rw[hs]at h;simp only at h;split at h
    ·unfold df.bind at h;cases h1:bU (a6 c d ls) e.args n with
     |er b q=>rw[h1]at h;cases h
     |ok l q=>
      rw[h1]at h;simp only at h;split at h
      ·cases h;exact vT _ _
      ·cases h
    ·cases h
  rw[gw h2 h12 h17 h15]at h;unfold df.bind at h;cases h1:bU (a6 c d ls) e.args n with
  |er b q=>rw[h1]at h;cases h
  | ok l q=>
   rw[h1]at h;simp only at h;have hq:=pp e.args (fun x hx n t m=>H ls x n t m) n l q hn h1;cases hp:bD e l with
   |none=>rw[ge hp]at h;cases h
   |some u=>
    rw[fc hp]at h;cases h;split
    ·exact vT _ _
    ·exact hq
def sF:bA:=[102]
def sG:bA:=[103]
def jR:bA:=[103,101,111]
def eL:Mod:=⟨[111,119,110],[jR],[([110],.mk 0 [])],[.mk 0 0 [] [] [] []],[],false,[],[],[]⟩
def dY(n:bA)(s:Sig):Sig:={ s with name:=n }
def dK(a c:Sig):Face:=⟨jR,[dY sF a,dY sG c]⟩
def pE:gD eL=true:=by decide +kernel
def jF(a c:Sig)(e:Exp):bS (dG eL [dK a c]) e=if e.m=jR then(if e.s=sF then some (a.params,a.result,a.effects)else if e.s=sG then some (c.params,c.result,c.effects)else none)else none:=by
 unfold bS;by_cases h0:e.m=[]
 ·rw[Ht h0,if_neg (by rw[h0];decide)];rfl
 ·rw [if_neg h0];have hf:(dG eL [dK a c]).faces e.m=if e.m=jR then some (dK a c)else none:=by
   show[dK a c].find? (fun f=>f.module== e.m)=_;have hb:((dK a c).module== e.m)=decide (e.m=jR):=by
    rw[IJ,HX,Hy];exact⟨fun h=>h.symm,fun h=>h.symm⟩
   simp only[Ks,List.find?_nil,hb];by_cases hg:e.m=jR<;>simp[hg]
  rw[hf];by_cases hg:e.m=jR
  ·rw[Ht hg,Ht hg];have hu:e.m∈(dG eL [dK a c]).uses:=by rw[hg];exact Im.2 rfl
   have b1:((dY sF a).name== e.s)=decide (e.s=sF):=by
    rw[IJ,HX,Hy];exact⟨fun h=>h.symm,fun h=>h.symm⟩
   have b2:((dY sG c).name== e.s)=decide (e.s=sG):=by
    rw[IJ,HX,Hy];exact⟨fun h=>h.symm,fun h=>h.symm⟩
   have hfs:(dK a c).funcs.find? (fun s=>s.name== e.s)=if e.s=sF then some (dY sF a)else if e.s=sG then some (dY sG c)else none:=by
    show[dY sF a,dY sG c].find? (fun s=>s.name== e.s)=_;simp only[Ks,List.find?_nil,b1,b2];by_cases h1:e.s=sF
    ·simp[h1]
    ·have h3:¬sG=sF:=by decide
     by_cases h2:e.s=sG<;>simp[h1,h2,h3]
   simp only[hfs];by_cases h1:e.s=sF
   ·rw[Ht h1,Ht h1];simp only[Ht hu];rfl
   ·rw[if_neg h1,if_neg h1];by_cases h2:e.s=sG
    ·rw[Ht h2,Ht h2];simp only[Ht hu];rfl
    ·rw[if_neg h2,if_neg h2]
  ·rw[if_neg hg,if_neg hg]
structure SigR (s:Sig):Prop where
 pars:∀t∈s.params,aH t=true
 res:aH s.result=true
def rK{a c:Sig}:dT (dK a c)=true↔SigR a/\SigR c:=by
 unfold dT dK;simp only[Ip,List.all_nil,Jv,Hq,Hx,dY];exact⟨fun⟨⟨h1,h2⟩,h3,h4⟩=>⟨⟨h2,h1⟩,h4,h3⟩,fun⟨⟨h1,h2⟩,h3,h4⟩=>⟨⟨h2,h1⟩,h4,h3⟩⟩
def xf{a b:Sig}(h:sZ a b=true):SigR a:=by
 unfold sZ at h;simp only[Hq]at h;have h1:∀ {l l':List Ty},cd jp l l'=true->∀t∈l',aH t=true:=by
  intro l
  induction l with
  |nil=>
   intro l' h t ht;cases l' with
   |nil=>cases ht
   |cons y l'=>cases h
  | cons x l ih=>
   intro l' h t ht;cases l' with
   |nil=>cases ht
   | cons y l'=>
    simp only[cd,Hq]at h;rcases HO.1 ht with rfl|ht
    ·have:=h.1
     unfold jp at this;simp only[Hq]at this;exact this.1.2
    ·exact ih h.2 t ht
 refine⟨h1 h.1.1,?_⟩
 have:=h.1.2
 unfold jp at this;simp only[Hq]at this;exact this.1.1
theorem Bv{a b c:Sig}(hs:sZ a b=true)(hc:SigR c):CLe (dG eL [dK b c]) (dG eL [dK a c]) where
 vars:=rfl
 vok:=fun z hz=>fv 4 z.2 ((uk pE).vars z hz)
 call:=fun e s h=>by
  rw[jF]at h;rw[jF];by_cases hg:e.m=jR
  ·rw[Ht hg]at h|-;by_cases h1:e.s=sF
   ·rw[Ht h1]at h|-;cases h;unfold sZ at hs;simp only[Hq]at hs;exact⟨_,rfl,q7 (fun _ _ h=>nY h) hs.1.1,nY hs.1.2,rJ (HX.1 hs.2)⟩
   ·rw[if_neg h1]at h|-;by_cases h2:e.s=sG
    ·rw[Ht h2]at h|-;cases h;exact⟨_,rfl,kT fun t ht=>fv 4 t (hc.pars t ht),fv 4 _ hc.res,gg.refl _⟩
    ·rw[if_neg h2]at h;cases h
  ·rw[if_neg hg]at h;cases h
def od{a c:Sig}(ha:SigR a)(hc:SigR c):CRight (dG eL [dK a c]) where
 vars:=(uk pE).vars
 res:=fun e s h=>by
  rw[jF]at h;by_cases hg:e.m=jR
  ·rw[Ht hg]at h;by_cases h1:e.s=sF
   ·rw[Ht h1]at h;cases h;exact ha.res
   ·rw[if_neg h1]at h;by_cases h2:e.s=sG
    ·rw[Ht h2]at h;cases h;exact hc.res
    ·rw[if_neg h2]at h;cases h
  ·rw[if_neg hg]at h;cases h
def d9(m:Mod)(fs:List Face)(ls:List bi)(e:Exp):Ty×Int×Int:=
 if((ls.any fun f=>!(aH f.2))||!(qW e)||!(gD m)||!(fs.all dT))=true then(.mk 0 [],0,1)
 else match a6 (dG m (dt [] fs)) 12 ls e 0 with
  |.er b _=>(.mk 0 [],0,b)
  |.ok t n=>(t,n,0)
theorem Ac{a b c:Sig}(hs:sZ a b=true)(ls:List bi)(e:Exp)(h:(d9 eL [dK b c] ls e).2.2=0)(hn:NoRec e):
  (d9 eL [dK a c] ls e).2.2=0/\jp (d9 eL [dK a c] ls e).1 (d9 eL [dK b c] ls e).1=true/\xy (d9 eL [dK a c] ls e).2.1 (d9 eL [dK b c] ls e).2.1=(d9 eL [dK a c] ls e).2.1:=by
 have db:dt [] [dK b c]=[dK b c]:=rfl;have da:dt [] [dK a c]=[dK a c]:=rfl;unfold d9 at h|-;rw[db]at h|-;rw[da];by_cases hc:((ls.any fun f=>!(aH f.2))||!(qW e)||!(gD eL)||!([dK b c].all dT))=true
 ·rw[Ht hc]at h;cases h
 ·rw[if_neg hc]at h|-;simp only[It,not_or,Ib,Bool.not_eq_false,Ip,List.all_nil,Jv,JM]at hc;obtain⟨⟨⟨c1,c2⟩,c3⟩,c4⟩:=hc;obtain⟨rb,rc⟩:=rK.1 c4;have ra:=xf hs;have c4':dT (dK a c)=true:=rK.2 ⟨ra,rc⟩;have hc':¬((ls.any fun f=>!(aH f.2))||!(qW e)||!(gD eL)||!([dK a c].all dT))=true:=by
   simp only[c1,c2,c3,c4',Ip,List.all_nil];decide
  rw[if_neg hc'];have hls:∀z∈ls,aH z.2=true:=fun z hz=>by
   have:=J5.1 c1 z hz
   simpa using this
  cases ht:a6 (dG eL [dK b c]) 12 ls e 0 with
  |er k n=>rw[ht]at h;exact absurd h (gq _ 12 ls e 0 k n ht)
  | ok t n=>
   obtain⟨t',n',e1,e2,e3⟩:=pM (Bv hs rc) 12 ls ls e ⟨12,c2⟩ (vW hls) 0 0 t n (gg.refl _) ht;rw[e1];refine⟨rfl,?_,?_⟩
   ·show jp t' t=true;unfold jp;rw[jV (od ra rc) 12 ls e hn hls 0 t' n' e1,jV (od rb rc) 12 ls e hn hls 0 t n ht,e2];rfl
   ·have hw:=pN _ 12 ls e 0 t' n' ⟨by decide,by decide⟩ e1;exact mJ hw.1 hw.2 (by rw[s4 e3];rfl)
end Go.Av.Ap
