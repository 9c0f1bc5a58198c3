/- The abstract evaluator of the model and plain laws, part 4: its soundness holds for every program whose table of types is the evaluator's. No further condition. -/
import Derived.Test.YtgpmcoffkopjeaaGreatDoorLc
import Derived.ChangeReads
import Derived.ReadAgain
import Derived.Deep.Slices
import Derived.WideShapes
import Derived.SizedLaws
import Derived.Lib.AtoiAllCases
import Derived.Sort.MapsRangeIn
import Derived.Maps.OwnIn
import Derived.RangeFuncSeq
set_option linter.defProp false
set_option linter.unusedSimpArgs false
set_option linter.unusedVariables false
namespace Go.Av
open Go.RowKit
section
variable {H:Type} {enc:TypeId×Value->H} {P:Program} {w w':World}
theorem iv{base:Nat}{spare:Nat->Bool}{held:Bool}:∀ {ts:List TypeId} {vs:List Value} {ds:List (DataW H)} {ps:List MemPlace},DataW.TrodAll enc P w base spare held ts vs ds ps->(∀p∈ps,w.sameAt w' p)->DataW.TrodAll enc P w' base spare held ts vs ds ps
 |[],[],[],_,h,_=>h
 |_:: _,_:: _,_:: _,_,⟨p,q,⟨n,h1⟩,h2,e⟩,hs=>⟨p,q,⟨n,DataW.trod_carry n _ _ _ h1 (fun x hx=>hs x (by rw[e];exact List.mem_append_left _ hx))⟩,iv h2 (fun x hx=>hs x (by rw[e];exact List.mem_append_right _ hx)),e⟩
theorem pk(hb:Below w.heap.size w w'){p:MemPlace}(hp:p.block<w.heap.size):w.sameAt w' p:=by
 cases p with
 |cell b off=>
  have:=hb.block b hp
  show w'.cell? ⟨b,off,none⟩=w.cell? ⟨b,off,none⟩;simp only[World.cell?,this]
 |map b=>exact hb.block b hp
theorem rj{T:TypeId->Prop}(K:Kids P T)(hz:∀t e,T t->P.underlying t=some (.slice e)->0<P.cellsOf e){ts:List TypeId}{vs:List Value}{ds:List (DataW H)}{ps:List MemPlace}(hT:∀t∈ts,T t)(h:DataW.TrodAll enc P w 0 (fun _=>true) true ts vs ds ps)(hlt:∀p∈ps,p.block<w.heap.size)(hb:Below w.heap.size w w')(sp:Nat->Bool)(hsp:∀p∈ps,sp p.block=true):DataW.TrodAll enc P w' 0 sp true ts vs ds ps:=
 (iv h fun p hp=>pk hb (hlt p hp)).respare K hz hT hsp
end
theorem sW{α:Type}(Q:Nat->α->Prop):∀n,(∀i,i<n->∃x,Q i x)->∃l:List α,l.length=n/\∀i x,l[i]? = some x->Q i x
 |0,_=>⟨[],rfl,fun i x h=>by simp at h⟩
 | n+1,h=>by
  obtain⟨l,h1,h2⟩:=sW Q n fun i hi=>h i (by omega);obtain⟨y,hy⟩:=h n (by omega);refine⟨l++[y],by simp[h1],fun i x hx=>?_⟩;by_cases hi:i<n
  ·rw[DZ (by omega)]at hx;exact h2 i x hx
  ·rw[D6 (by omega)]at hx;have hin:i-l.length=0:=by
    rcases EA (i-l.length)with h|h
    ·exact h
    ·rw[DV (by simp;omega)]at hx;cases hx
   rw[hin]at hx;simp only[D3,DI]at hx;subst hx;obtain rfl:i=n:=by omega
   exact hy
end Go.Av
namespace Go.Av
open Go.RowKit Go.WideShapes Go.ChangeShapes
section
variable {H:Type} (enc:TypeId×Value->H) (P:Program) (W:World)
def Rd{α:Type}(N:Nat)(t:TypeId)(cells:α->List AV)(Ok:α->Prop):Prop:=∀(base:Nat)(held:Bool)(n:Nat),n<N->∀(cs:List Value)(x:DataW H×List MemPlace),DataW.trod enc P W base (fun _=>true) held n t cs=some x->(∀k∈x.1.weights P t,k<=reachBytes)->∃a:α,aE (gC W) [] (cells a) cs/\Ok a
def wT{α:Type}(N:Nat)(tot:Nat)(o:Nat)(fs:List Field)(cells:α->List AV)(Ok:α->Prop):Prop:=∀(base:Nat)(held:Bool)(n:Nat),n<N->∀(cs:List Value)(xs:List (DataW H×List MemPlace)),cs.length=tot->
 xs.length=fs.length->(∀(i:Nat)(f:Field),fs[i]? = some f->DataW.trod enc P W base (fun _=>true) held n f.type ((cs.drop f.offset).take (P.cellsOf f.type))=xs[i]?)->(∀k∈DataW.weightsEach P (fs.map (·.type)) (xs.map (·.1)),k<=reachBytes)->∃a:α,aE (gC W) [] (cells a) (cs.drop o)/\Ok a
variable {enc P W} {α β:Type} {N:Nat} {t:TypeId}
theorem Rd.zero{cells:α->List AV}{Ok:α->Prop}:Rd enc P W 0 t cells Ok:=fun _ _ n hn=>absurd hn (by omega)
theorem Rd.le{cells:α->List AV}{Ok:α->Prop}(h:Rd enc P W N t cells Ok){M:Nat}(hm:M<=N):Rd enc P W M t cells Ok:=fun b hd n hn=>h b hd n (by omega)
theorem Rd.map{cells:α->List AV}{Ok:α->Prop}(h:Rd enc P W N t cells Ok)(g:α->β){cells':β->List AV}{Ok':β->Prop}(hc:∀a,cells' (g a)=cells a)(ho:∀a,Ok a->Ok' (g a)):Rd enc P W N t cells' Ok':=by
 intro b hd n hn cs x hx hw;obtain⟨a,h1,h2⟩:=h b hd n hn cs x hx hw;exact⟨g a,by rw[hc];exact h1,ho a h2⟩
theorem wg{k:IntKind}(ht:P.underlying t=some (.int k)):Rd enc P W N t (fun n:Int=>[.int k n]) (fun n=>(Lit.int k n).wf=true):=by
 intro b hd n hn cs x hx hw;obtain⟨b,rfl,_,hwf⟩:=DataW.trod_int ht hx;exact⟨b,by simp[aE,VR],hwf⟩
theorem pi(ht:P.underlying t=some .string):Rd enc P W N t (fun s:List UInt8=>[.str s]) (fun s=>s.length<=reachBytes):=by
 intro b hd n hn cs x hx hw;obtain⟨s,rfl,rfl,_⟩:=DataW.trod_string ht hx;exact⟨s.data.toList,by simp[aE,VR],hw _ (by simp[DataW.weights])⟩
def Ai(cells:α->List AV)(ev:α->AV)(sz:Nat):Prop:=∀(a:α)(S:ao)(β:List a8)(vs:List Value),aE S β (cells a) vs->vs.length=sz->∃v,VR S β (ev a) v/\v.cells.toList=vs
theorem jT{cells:α->List AV}{ev:α->AV}{sz:Nat}(he:∀a,ev a= .agg (cells a)):Ai cells ev sz:=fun a S β vs h hl=>⟨.agg vs.toArray,by rw[he];simp only[VR];exact⟨vs,rfl,h⟩,by simp[Value.cells]⟩
theorem gW{e:TypeId}:∀ {l:List (DataW H)} {d:DataW H},d∈l->∀k∈d.weights P e,k∈DataW.weightsAll P e l
 |x:: l,d,hd,k,hk=>by
  simp only[DataW.weightsAll,Eg];rcases Eh.1 hd with rfl|hd
  ·exact .inl hk
  ·exact .inr (gW hd k hk)
theorem mJ{e:TypeId}{cells:α->List AV}{Ok:α->Prop}(h:Rd enc P W N e cells Ok)(ht:P.underlying t=some (.slice e)){sz by_:Nat}(hsz:P.cellsOf e=sz)(h0:0<sz)(hby:P.bytesOf e=by_){ev:α->AV}(hev:Ai cells ev sz):
  Rd enc P W N t (fun l:List α=>[.sl (l.map ev)]) (fun l=>l.length*by_<=reachBytes/\∀a∈l,Ok a):=by
 intro base hd n hn cs x hx hw;rcases DataW.trod_slice ht hx with⟨rfl,rfl⟩|⟨a,len,cap,elems,rest,m,rfl,rfl,rfl,hb,hle,hm,hlen,hel,hsp,_⟩
 ·exact⟨[],by simp only[aE,List.map_nil,VR];exact⟨_,_,rfl,⟨none,0,rfl,DT _,fun _=>rfl,fun q hq=>by cases hq⟩,rfl⟩,by simp,fun a ha=>by cases ha⟩
 obtain⟨hrl,hre⟩:=hsp rfl;rw[hsz]at hel hre;simp only[DataW.weights,ht,Eh,Eg,hby]at hw;have hspot:0<cap->a.spot=none:=by
  intro hc;have:∃y,(W.cells? base (a.add 0) sz).bind (DataW.trod enc P W base (fun _=>true) hd m e)=some y:=by
   by_cases h1:0<len
   ·have:=hel 0 h1
    rw[D5 (by omega)]at this;exact⟨_,by simpa using this⟩
   ·have:=hre 0 (by omega)
    rw[D5 (by omega)]at this;obtain rfl:len=0:=by omega
    exact⟨_,by simpa using this⟩
  obtain⟨y,hy⟩:=this;obtain⟨cs,hcs,_⟩:=Gx.1 hy;obtain⟨_,hl,hc⟩:=World.cells?_some hcs;have h2:=hc 0 h0;rw[D5 (by omega)]at h2;have h3:=World.cell?_spot h2;have e:(a.add 0).add 0=a:=by unfold Addr.add;simp
  rwa [e]at h3
 have hx:∀i,i<len->∃y:α,(∃v,VR (gC W) [] (ev y) v/\v.cells.size=sz/\dK (gC W) a.block (a.off+i*sz) v.cells.toList)/\Ok y:=by
  intro i hi;have h1:=hel i hi;rw[D5 (by omega)]at h1;obtain⟨cs,hcs,htr⟩:=Gx.1 h1;obtain⟨y,hy,hok⟩:=h base hd m (by omega) cs _ htr (fun k hk=>hw k (.inr (.inl (gW (Fe.2 ⟨_,Ed _,rfl⟩) k hk))));obtain⟨_,hl,hc⟩:=World.cells?_some hcs;obtain⟨v,hv,hvc⟩:=hev y _ _ cs hy hl;refine⟨y,⟨v,hv,by rw[<- EC,hvc,hl],fun j u hj=>?_⟩,hok⟩;rw[hvc]at hj;have hjl:j<sz:=by
   rcases D4 j cs.length with h|h
   ·omega
   ·rw[DV h]at hj;cases hj
  have h2:=hc j hjl;rw[hj]at h2;unfold gC;have hs:=hspot (by omega);have e:(a.add (i*sz)).add j=⟨a.block,a.off+i*sz+j,none⟩:=by
   obtain⟨b,o,s⟩:=a;simp only at hs;subst hs;rw[add_plain,add_plain]
  rw[<- e];exact h2
 obtain⟨l,hl1,hl2⟩:=sW (fun i y=>(∃v,VR (gC W) [] (ev y) v/\v.cells.size=sz/\dK (gC W) a.block (a.off+i*sz) v.cells.toList)/\Ok y) len hx;refine⟨l,?_,?_,fun y hy=>?_⟩
 ·simp only[aE,VR,EX];refine⟨_,_,rfl,⟨some a,cap,by rw[hl1],by omega,(fun e=>by cases e),fun q hq=>?_⟩,rfl⟩;cases hq;refine⟨hspot,sz,.of_get fun i e he=>?_⟩;rw[EJ,EK]at he;obtain⟨y,hy,rfl⟩:=he;exact (hl2 i y hy).1
 ·have:=hw _ (.inl rfl)
  simp only[EX]at this;have h3:=D1 by_ (show l.length<=elems.length+rest.length by omega);omega
 ·obtain⟨i,hi,e⟩:=List.getElem_of_mem hy;exact (hl2 i y (by rw[D5 hi,e])).2
theorem jx{tot:Nat}:wT enc P W N tot tot [] (fun _:Unit=>[]) (fun _=>True):=fun base hd n hn cs xs hl _ _ _=>⟨(),by simp[aE,<- hl],trivial⟩
theorem cT{tot o k:Nat}{f:Field}{fs:List Field}{c1:α->List AV}{Ok1:α->Prop}{c2:β->List AV}{Ok2:β->Prop}(h1:Rd enc P W N f.type c1 Ok1)(ho:f.offset=o)(hk:P.cellsOf f.type=k)(h2:wT enc P W N tot (o+k) fs c2 Ok2):
  wT enc P W N tot o (f:: fs) (fun x:α×β=>c1 x.1++c2 x.2) (fun x=>Ok1 x.1/\Ok2 x.2):=by
 intro base hd n hn cs xs hl hx hf hw
 match xs,hx with
 |x:: xs,hx=>
  have hf0:=hf 0 f rfl;rw[ho,hk]at hf0;simp only[Ev,DataW.weightsEach,Eg]at hw;obtain⟨a,ha,oa⟩:=h1 base hd n hn _ x hf0 fun k hk=>hw k (.inl hk);obtain⟨b,hb,ob⟩:=h2 base hd n hn cs xs hl (by simpa using hx) (fun i g hg=>by simpa using hf (i+1) g (by simpa using hg)) fun k hk=>hw k (.inr hk);refine⟨(a,b),?_,oa,ob⟩
  have:=ha.append hb
  rwa [<- FJ,Fp]at this
theorem ib{fs:Array Field}{tot:Nat}{cells:α->List AV}{Ok:α->Prop}(ht:P.underlying t=some (.struct fs))(hc:P.cellsOf t=tot)(h:wT enc P W N tot 0 fs.toList cells Ok):Rd enc P W (N+1) t cells Ok:=by
 intro base hd n hn cs x hx hw;obtain⟨xs,m,rfl,rfl,hl,hxs,hf⟩:=DataW.trod_struct ht hx;simp only[DataW.weights,ht]at hw;obtain⟨a,h1,h2⟩:=h base hd m (by omega) cs xs (by rw[hl,hc]) (by simpa using hxs) (fun i f hi=>hf i f (by simpa using hi)) hw;exact⟨a,by simpa using h1,h2⟩
theorem wd{cells:α->List AV}{Ok:α->Prop}(h:∀N,Rd enc P W N t cells Ok){base:Nat}{held:Bool}{v:Value}{d:DataW H}{p:List MemPlace}(hd:DataW.Trod enc P W base (fun _=>true) held t v d p)(hw:∀k∈d.weights P t,k<=reachBytes):
  ∃a:α,aE (gC W) [] (cells a) v.cells.toList/\Ok a:=by
 obtain⟨n,hn⟩:=hd;exact h (n+1) base held n (by omega) _ _ hn hw
theorem xM{f:α->AV}{Ok:α->Prop}(h:∀N,Rd enc P W N t (fun a=>[f a]) Ok){base:Nat}{held:Bool}{v:Value}{d:DataW H}{p:List MemPlace}(hv:v.cells.toList=[v])(hd:DataW.Trod enc P W base (fun _=>true) held t v d p)(hw:∀k∈d.weights P t,k<=reachBytes):
  ∃a:α,VR (gC W) [] (f a) v/\Ok a:=by
 obtain⟨a,h1,h2⟩:=wd h hd hw;rw[hv]at h1;simp only[aE]at h1;obtain⟨y,ys,e,h1,rfl⟩:=h1;cases e;exact⟨a,h1,h2⟩
theorem w4{r:Reach}{b0:Nat}{f:α->AV}{Ok:α->Prop}(h:∀N,Rd enc P W N t (fun a=>[f a]) Ok)(ht:P.underlying t=some .string){base:Nat}{held:Bool}{v:Value}{d:DataW H}{p:List MemPlace}(hok:Value.okWide P W r b0 t v)(hd:DataW.Trod enc P W base (fun _=>true) held t v d p)(hw:∀k∈d.weights P t,k<=reachBytes):∃a:α,VR (gC W) [] (f a) v/\Ok a:=by
 obtain⟨a,rfl⟩:=okWide_string ht hok;exact xM h rfl hd hw
theorem ri{fs:Array Field}{r:Reach}{b0:Nat}{f:α->AV}{Ok:α->Prop}{cells:α->List AV}(h:∀N,Rd enc P W N t cells Ok)(hf:∀a,f a= .agg (cells a))(ht:P.underlying t=some (.struct fs)){base:Nat}{held:Bool}{v:Value}{d:DataW H}{p:List MemPlace}(hok:Value.okWide P W r b0 t v)(hd:DataW.Trod enc P W base (fun _=>true) held t v d p)(hw:∀k∈d.weights P t,k<=reachBytes):∃a:α,VR (gC W) [] (f a) v/\Ok a:=by
 obtain⟨cs,rfl,_⟩:=okWide_struct ht hok;obtain⟨a,h1,h2⟩:=wd h hd hw;refine⟨a,?_,h2⟩;rw[hf];simp only[VR];exact⟨cs.toList,by simp,h1⟩
theorem lY{ts:List TypeId}{ds:List (DataW H)}(h:(DataW.weightsEach P ts ds).all (· <=reachBytes)=true){j:Nat}{u:TypeId}{d:DataW H}(ht:ts[j]? = some u)(hd:ds[j]? = some d):∀k∈d.weights P u,k<=reachBytes:=fun k hk=>by
 have:=DW.1 h _ (DataW.weights_mem_each ht hd k hk)
 simpa using this
end
end Go.Av
namespace Go.Av.Ap
open Go Go.Av
theorem lX:∀(f u:Nat)(x:UInt8),x∈fM f u->48<=x.toNat/\x.toNat<=57
 |0,_,x,h=>by simp[fM]at h
 | f+1,u,x,h=>by
  simp only[fM]at h;by_cases h10:u<10
  ·rw[EV h10]at h;simp only[DJ,Fl]at h;subst h;simp[Gj];omega
  ·rw[Fo h10]at h;simp only[DO,Eg,Fl]at h;rcases h with h|rfl
   ·exact lX f _ x h
   ·simp[Gj];omega
theorem sP:∀(f u:Nat),fM (f+1) u≠[]
 |f,u=>by
  simp only[fM];cases decide (u<10)<;>simp
theorem iM(d:Nat)(hd:d<10):∀(l:bj)(acc m:Nat),Lib.parseUint10 acc l= .ok m->m<1000000000000->Lib.parseUint10 acc (l++[UInt8.ofNat (48+d)])= .ok (m*10+d)
 |[],acc,m,h,hm=>by
  simp only[Lib.parseUint10]at h;cases h;have e:(UInt8.ofNat (48+d)).toNat=48+d:=by simp[Gj];omega
  simp only[En,Lib.parseUint10,e];rw[DR (by omega),if_neg (by omega),if_neg (by omega)];congr 1;omega
 | c :: l,acc,m,h,hm=>by
  simp only[Ej,Lib.parseUint10]at h|-;split at h
  ·rename_i hc;rw[DR hc];split at h
   ·cases h
   ·rename_i h1;rw[if_neg h1];split at h
    ·cases h
    ·rename_i h2;rw[if_neg h2];exact iM d hd l _ m h hm
  ·cases h
theorem mI:∀(f u:Nat),u<10 ^ (f+1)->u<10000000000->Lib.parseUint10 0 (fM (f+1) u)= .ok u
 | f,u,h,hb=>by
  rw[show fM (f+1) u=bif decide (u<10)then[UInt8.ofNat (48+u)]else fM f (u / 10)++[UInt8.ofNat (48+u % 10)]from rfl];by_cases h10:u<10
  ·rw[EV h10]
   have:=iM u h10 [] 0 0 rfl (by omega)
   simpa using this
  ·rw[Fo h10];simp only[DO];cases f with
   |zero=>omega
   |succ f=>
    have ih:=mI f (u / 10) (by rw[Nat.pow_succ]at h;omega) (by omega);rw[iM (u % 10) (by omega) _ 0 (u / 10) ih (by omega)];congr 1;omega
def tx(n:Int)(h0:0<=n)(h1:n<=1048576):Lib.atoiAll (bA n)= .ok n:=by
 have e:bA n=fM 20 n.toNat:=by unfold bA;rw[Fo (by omega)];rfl
 rw[e];have hp:=mI 19 n.toNat (by omega) (by omega);cases hd:fM 20 n.toNat with
 |nil=>exact absurd hd (sP 19 _)
 |cons c r=>
  have hc:=lX 20 n.toNat c (by rw[hd];simp);rw[Lib.atoiAll_plain c r (by omega) (by omega)];rw[<- hd];unfold Lib.parseMag;rw[if_neg (sP 19 _),hp];simp only[Lib.signless];rw[if_neg (by omega)];congr 1;omega
def mi{n:Int}(h0:0<=n):bA n=fM 20 n.toNat:=by unfold bA;rw[Fo (by omega)];rfl
def t8{n:Int}(h0:0<=n):∀x∈bA n,48<=x.toNat/\x.toNat<=57:=by
 rw[mi h0];exact lX 20 _
theorem iX:∀(f u:Nat),(fM f u).length<=f
 |0,_=>by simp[fM]
 |f+1,u=>by
  simp only[fM];cases decide (u<10)with
  |true=>simp
  |false=>have:=iX f (u / 10);simp;omega
def hJ(n:Int):(bA n).length<=21:=by
 unfold bA;cases decide (n<0)with
 |true=>have:=iX 20 n.natAbs;simp;omega
 |false=>have:=iX 20 n.toNat;simp;omega
def rT{n:Int}(h0:0<=n):(bA n).length<=20:=by
 rw[mi h0];exact iX 20 _
abbrev Rs:=bj×Bool
def eM:Rs:=([],true)
def aY(e:UInt8)(r:Rs):Int×Rs:=
 if Lib.indexByte (r.1.take 21) e<0 then(0,eM)else
 match Lib.atoiAll ((r.1.take 21).take (Lib.indexByte (r.1.take 21) e).toNat)with
 |.ok n=>if bA n=(r.1.take 21).take (Lib.indexByte (r.1.take 21) e).toNat/\0<=n then(n,(r.1.drop ((Lib.indexByte (r.1.take 21) e).toNat+1),r.2))else(0,eM)
 |_=>(0,eM)
def bF(r:Rs):bj×Rs:=
 if(aY 58 r).1>((aY 58 r).2.1.length:Int)then([],eM)else
 match (aY 58 r).2.1.drop (aY 58 r).1.toNat with
 |c:: s=>if c=44 then(if(aY 58 r).2.2=true then([],(s,true))else((aY 58 r).2.1.take (aY 58 r).1.toNat,(s,false)))else([],eM)
 |[]=>([],eM)
def bd{α:Type}(one:Rs->α×Rs)(n:Int)(cap:Nat):Nat->List α->Rs->List α×Rs
 |0,acc,r=>(acc,r)
 |f+1,acc,r=>if(acc.length:Int)<n/\acc.length<=cap/\0<r.1.length then bd one n cap f (acc++[(one r).1]) (one r).2 else(acc,r)
def na(ty:Rs->Ty×Rs)(r:Rs):dV×Rs:=(((bF r).1,(ty (bF r).2).1),(ty (bF r).2).2)
def aF:Nat->Rs->Ty×Rs
 |0,r=>(⟨(aY 59 r).1,[]⟩,(aY 59 r).2)
 | d+1,r=>if(aY 59 r).1=2 then
   (⟨(aY 59 r).1,(bd (na (aF d)) (aY 59 (aY 59 r).2).1 8 10 [] (aY 59 (aY 59 r).2).2).1⟩,(bd (na (aF d)) (aY 59 (aY 59 r).2).1 8 10 [] (aY 59 (aY 59 r).2).2).2)
  else(⟨(aY 59 r).1,[]⟩,(aY 59 r).2)
def gE(r:Rs):Sig×Rs:=
 let a:=bF r;let m:=aY 59 a.2;let p:=bd (aF 4) m.1 6 8 [] m.2;let t:=aF 4 p.2;let e:=aY 59 t.2
 (⟨a.1,p.1,t.1,e.1⟩,e.2)
def dA(s:bj):Face:=
 let a:=bF (s,false);let n:=aY 59 a.2
 ⟨a.1,(bd gE n.1 30 32 [] n.2).1⟩
def cE(n:Int):bj:=if n<0 then[]else bA n++[59]
def eU(s:bj):bj:=bA s.length++[58]++s++[44]
mutual
def cS:Ty->bj
 |.mk k fs=>cE k++(if k=2 then cE fs.length++li fs else[])
def li:List (bj×Ty)->bj
 |[]=>[]
 |f:: l=>eJ f++li l
def eJ:bj×Ty->bj
 |(s,t)=>eU s++cS t
end
theorem l5:∀l:List dV,li l=l.flatMap eJ
 |[]=>rfl
 |f:: l=>by rw[li,l5 l,EU]
def g8(f:dV):eJ f=eU f.1++cS f.2:=by obtain⟨s,t⟩:=f;rfl
def jK(t:Ty):cS t=cE t.kind++(if t.kind=2 then cE t.fields.length++t.fields.flatMap eJ else[]):=by
 obtain⟨k,fs⟩:=t;rw[cS,l5];rfl
def iq(s:Sig):bj:=eU s.name++cE s.params.length++s.params.flatMap cS++cS s.result++cE s.effects
def fa(f:Face):bj:=eU f.module++cE f.funcs.length++f.funcs.flatMap iq
def fl(f:Face):bj×Int:=if cP f=true then(fa f,0)else([],1)
def dS(s:bj):Face×Int:=if(fl (dA s)).2=0/\(fl (dA s)).1=s then(dA s,0)else(⟨[],[]⟩,2)
theorem oe(c:UInt8)(r:bj):∀(l:bj),(∀x∈l,x≠c)->Lib.indexByte (l++c:: r) c=l.length
 |[],_=>by simp[Lib.indexByte]
 |x:: l,h=>by
  have hx:(x== c)=false:=EZ.2 (h x (by simp));have ih:=oe c r l fun y hy=>h y (by simp[hy]);simp only[Ej,Lib.indexByte,hx,ih,D2,Ek,Ec];rw[if_neg (by simp)];omega
def qL(e:UInt8)(he:¬(48<=e.toNat/\e.toNat<=57)){n:Int}(h0:0<=n)(h1:n<=1048576)(r:bj)(b:Bool):aY e (bA n++e:: r,b)=(n,(r,b)):=by
 have hl:=rT h0;have hd:∀x∈bA n,x≠e:=fun x hx hxe=>he (hxe▸t8 h0 x hx);have hlen:(bA n).length+1<=21:=by omega
 have ht:(bA n++e:: r).take 21=bA n++e:: r.take (20-(bA n).length):=by
  rw[E2,ES (by omega)];congr 1;rw[show 21-(bA n).length=(20-(bA n).length)+1 by omega,Fy]
 have hi:Lib.indexByte ((bA n++e:: r).take 21) e=(bA n).length:=by rw[ht];exact oe e _ _ hd
 have hs:((bA n++e:: r).take 21).take (bA n).length=bA n:=by rw[ht,E2,FY];simp
 have hdr:(bA n++e:: r).drop ((bA n).length+1)=r:=by
  rw[<- FJ,List.drop_append,List.drop_length];simp
 unfold aY;simp only[hi,Eb,hs,tx n h0 h1];rw[if_neg (by omega),DR ⟨trivial,h0⟩,hdr]
def kg{s:bj}(h:s.length<=1048576)(r:bj):bF (eU s++r,false)=(s,(r,false)):=by
 have e:eU s++r=bA (s.length:Int)++58:: (s++44:: r):=by simp[eU]
 have hn:=qL 58 (by decide) (n:=(s.length:Int)) (by omega) (by omega) (s++44:: r) false;unfold bF;rw[e,hn];simp only[Eb];rw[if_neg (by simp;omega)];simp
def eW{n:Int}(h0:0<=n)(h1:n<=1048576)(r:bj)(b:Bool):aY 59 (cE n++r,b)=(n,(r,b)):=by
 unfold cE;rw[if_neg (by omega),EO];exact qL 59 (by decide) h0 h1 r b
theorem gh{α:Type}(one:Rs->α×Rs)(txt:α->bj)(cap:Nat):∀(f:Nat)(l acc:List α)(r:bj),(∀x∈l,txt x≠[]/\∀r,one (txt x++r,false)=(x,(r,false)))->(acc++l).length<=cap->l.length<=f->
  bd one ((acc++l).length:Int) cap f acc (l.flatMap txt++r,false)=(acc++l,(r,false))
 |0,l,acc,r,_,_,hf=>by
  obtain rfl:l=[]:=Gy.1 (by omega);simp[bd]
 |f+1,[],acc,r,_,_,_=>by simp[bd]
 |f+1,x:: l,acc,r,h,hc,hf=>by
  obtain⟨h1,h2⟩:=h x (by simp);have e:(x:: l).flatMap txt++r=txt x++(l.flatMap txt++r):=by simp
  have hpos:0<(txt x).length:=EY.2 h1;simp only[DX,Ec]at hc hf;rw[e,bd,h2,DR ⟨by simp;omega,by omega,by simp;omega⟩];have ih:=gh one txt cap f l (acc++[x]) r (fun y hy=>h y (by simp[hy])) (by simp;omega) (by omega);rw[show acc++x:: l=acc++[x]++l by simp];exact ih
def xH{n:Int}(h:0<=n):cE n≠[]:=by unfold cE;rw[if_neg (by omega)];simp
def tf(s:bj):eU s≠[]:=by unfold eU;simp
def dq{s:bj}(h:dN s=true):s.length<=20:=by
 unfold dN at h;simp only[DK]at h;exact oG h.1
theorem ki:∀(d:Nat)(t:Ty),bP d t=true->∀r,aF d (cS t++r,false)=(t,(r,false))
 |0,t,h,r=>by simp[bP]at h
 | d+1,t,h,r=>by
  rw[dh]at h;simp only[DK,DU,Ey,E0,DW]at h;obtain⟨⟨⟨⟨h0,h1⟩,h2⟩,h3⟩,h4,_⟩:=h;rw[jK,aF];by_cases hk:t.kind=2
  ·have e:(cE t.kind++(if t.kind=2 then cE t.fields.length++t.fields.flatMap eJ else[]))++r=cE t.kind++(cE t.fields.length++(t.fields.flatMap eJ++r)):=by rw[DR hk];simp
   have hi:=gh (na (aF d)) eJ 8 10 t.fields [] r (fun f hf=>by
    obtain⟨g1,g2⟩:=h4 f hf;refine⟨by rw[g8];simp[tf],fun r=>?_⟩;have hn:=dq g1;have e2:eJ f++r=eU f.1++(cS f.2++r):=by rw[g8];simp
    unfold na;rw[e2,kg (by omega),ki d f.2 g2 r]) (by simpa using h2) (by omega)
   rw[En]at hi;rw[e,eW h0 (by omega),DR hk];simp only;rw[eW (by omega) (by omega)];simp only;rw[hi];obtain⟨k,fs⟩:=t;rfl
  ·have hf:t.fields=[]:=Gy.1 (by rcases h3 with h3|h3;exact absurd h3 hk;exact h3);have e:(cE t.kind++(if t.kind=2 then cE t.fields.length++t.fields.flatMap eJ else[]))++r=cE t.kind++r:=by rw[if_neg hk];simp
   rw[e,eW h0 (by omega),if_neg hk];obtain⟨k,fs⟩:=t;change fs=[]at hf;subst hf;rfl
def wJ{t:Ty}(h:0<=t.kind):cS t≠[]:=by rw[jK];simp[xH h]
def ww{s:Sig}(h:di s=true)(he:0<=s.effects/\s.effects<=15)(r:bj):gE (iq s++r,false)=(s,(r,false)):=by
 unfold di at h;simp only[DK,DU,DW]at h;obtain⟨⟨⟨⟨h1,h2⟩,_⟩,h4⟩,h5⟩:=h;have hn:=dq h1;have hi:=gh (aF 4) cS 6 8 s.params [] (cS s.result++(cE s.effects++r)) (fun t ht=>by
  have hr:=h5 t ht;have hk:0<=t.kind:=by
   have:bP 4 t=true:=hr;rw[dh]at this;simp only[DK,DU]at this;exact this.1.1.1.1
  exact⟨wJ hk,ki 4 t hr⟩) (by simpa using h2) (by omega)
 rw[En]at hi;have e:iq s++r=eU s.name++(cE s.params.length++(s.params.flatMap cS++(cS s.result++(cE s.effects++r)))):=by simp[iq]
 unfold gE;rw[e,kg (by omega)];simp only;rw[eW (by omega) (by omega)];simp only;rw[hi];simp only;rw[ki 4 _ h4];simp only;rw[eW he.1 (by omega)]
def nS{f:Face}(h:cP f=true)(he:∀s∈f.funcs,0<=s.effects/\s.effects<=15)(r:bj):dA (fa f++r)=f:=by
 unfold cP at h;simp only[DK,DU,DW]at h;obtain⟨⟨h1,h2⟩,h3,_⟩:=h;have hn:=dq h1;have hi:=gh gE iq 30 32 f.funcs [] r (fun s hs=>⟨by unfold iq;simp[tf],ww (h3 s hs) (he s hs)⟩) (by simpa using h2) (by omega);rw[En]at hi;have e:fa f++r=eU f.module++(cE f.funcs.length++(f.funcs.flatMap iq++r)):=by simp[fa]
 unfold dA;rw[e,kg (by omega)];simp only;rw[eW (by omega) (by omega)];simp only;rw[hi]
def un{f:Face}(h:cP f=true)(he:∀s∈f.funcs,0<=s.effects/\s.effects<=15):dS (fa f)=(f,0):=by
 have hx:=nS h he [];rw[Gf]at hx;unfold dS;rw[hx,fl,DR h,DR ⟨rfl,rfl⟩]
def um{f:Face}(h:cP f=true)(he:∀s∈f.funcs,0<=s.effects/\s.effects<=15){r:bj}(hr:r≠[]):dS (fa f++r)=(⟨[],[]⟩,2):=by
 unfold dS;rw[nS h he r,fl,DR h,if_neg];rintro⟨_,e⟩;exact hr (by simpa using e)
def wm{s:bj}(h:(dS s).2=0):dS s=(dA s,0)/\cP (dA s)=true/\fa (dA s)=s:=by
 unfold dS at h|-;split at h
 ·rename_i hc;rw[DR hc];unfold fl at hc;split at hc
  ·rename_i hr;exact⟨rfl,hr,hc.2⟩
  ·exact absurd hc.1 (by decide)
 ·cases h
def wk{s:bj}(h:(dS s).2≠0):dS s=(⟨[],[]⟩,2):=by
 unfold dS at h|-;split at h
 ·exact absurd rfl h
 ·rename_i hc;rw[if_neg hc]
theorem fy{α:Type}(f:α->bj)(c:Nat):∀(l:List α),(∀x∈l,(f x).length<=c)->(l.flatMap f).length<=l.length*c
 |[],_=>by simp
 |x:: l,h=>by
  have h1:=h x (by simp);have h2:=fy f c l fun y hy=>h y (by simp[hy]);simp only[EU,DX,Ec,Fj];omega
def eC(n:Int):(cE n).length<=22:=by
 unfold cE
 have:=hJ n
 split<;>simp;omega
def fV{s:bj}(h:s.length<=20):(eU s).length<=43:=by
 unfold eU
 have:=hJ (s.length:Int)
 simp only[DX,Ec,Es];omega
theorem mV:∀(d:Nat)(t:Ty),d<=4->bP d t=true->(cS t).length<=200*10 ^ d
 |0,t,_,h=>by simp[bP]at h
 | d+1,t,hd,h=>by
  rw[dh]at h;simp only[DK,DU,Ey,E0,DW]at h;obtain⟨⟨⟨⟨h0,h1⟩,h2⟩,h3⟩,h4,_⟩:=h;have hf:=fy eJ (43+200*10 ^ d) t.fields fun f hf=>by
   obtain⟨g1,g2⟩:=h4 f hf;have e1:=fV (dq g1);have e2:=mV d f.2 (by omega) g2;rw[g8,DX];omega
  have hm:t.fields.length*(43+200*10 ^ d)<=8*(43+200*10 ^ d):=D1 _ h2;have n1:=eC t.kind;have n2:=eC (t.fields.length:Int);have hp:1<=10 ^ d:=Nat.one_le_pow _ _ (by omega);rw[jK,DX,Nat.pow_succ];split
  ·rw[DX];omega
  ·simp only[Es];omega
def xQ{s:Sig}(h:di s=true):(iq s).length<=16000000:=by
 unfold di at h;simp only[DK,DU,DW]at h;obtain⟨⟨⟨⟨h1,h2⟩,_⟩,h4⟩,h5⟩:=h;have e1:=fV (dq h1);have e2:=eC (s.params.length:Int);have e3:=fy cS 2000000 s.params fun t ht=>mV 4 t (DT _) (h5 t ht);have e4:=mV 4 _ (DT _) h4;have e5:=eC s.effects;have hm:s.params.length*2000000<=6*2000000:=D1 _ h2;unfold iq;simp only[DX];omega
def p9{f:Face}(h:cP f=true):(fa f).length<=500000000:=by
 unfold cP at h;simp only[DK,DU,DW]at h;obtain⟨⟨h1,h2⟩,h3,_⟩:=h;have e1:=fV (dq h1);have e2:=eC (f.funcs.length:Int);have e3:=fy iq 16000000 f.funcs fun s hs=>xQ (h3 s hs);have hm:f.funcs.length*16000000<=30*16000000:=D1 _ h2;unfold fa;simp only[DX];omega
end Go.Av.Ap
namespace Go.Av.Ap
open Go Go.Av
abbrev wO:=bj×bj
def qO(r:wO):AV:=.agg [.str r.1,.str r.2]
def qP(l:List wO):AV:=.sl (l.map qO)
def sd(l:List (List wO)):AV:=.sl (l.map qP)
@[simp] theorem yN(r:wO):ab (qO r)=[.str r.1,.str r.2]:=rfl
@[simp] theorem A8(r:wO):AV.agg [.str r.1,.str r.2]=qO r:=rfl
@[simp] theorem vX(r:wO):bQ 2 (qO r)=true:=rfl
@[simp] theorem Aa(l:List wO):cm 2 (l.map qO)=true:=cn vX l
@[simp] theorem zf(g:Nat->Nat->Nat->Nat->Bool->AV)(r:wO):cl g (qO r)=qO r:=rfl
@[simp] theorem xl(g:Nat->Nat->Nat->Nat->Bool->AV)(l:List wO):cl g (qP l)=qP l:=by simp[qP,cl,dm g qO (zf g)]
@[simp] theorem A1(g:Nat->Nat->Nat->Nat->Bool->AV)(l:List (List wO)):cl g (sd l)=sd l:=by simp[sd,cl,dm g qP (xl g)]
section
variable {V:Type}
end
end Go.Av.Ap
namespace Go.Av.Ap
open Go Go.Av
mutual
def zD:Exp->List Exp
 |.mk o n s m ns es=>.mk o n s m ns es:: s7 es
def s7:List Exp->List Exp
 |[]=>[]
 |e:: es=>zD e++s7 es
end
end Go.Av.Ap
namespace Go.Av
open Go
section
variable {F:Fence} {n:Nat} {P:Program} {w w':World} {ops:Array Oper} {rest:List Oper} {o:Oper} {a:Act} {Q:Exit->Act->World->Prop} {v:Value}
end
end Go.Av
namespace Go.Av.Ap
open Go Go.Av
def rY{T:TT}{t:Nat}{ti:TI}(ht:T t=some ti)(ha:ti.agg=false){h:Hp}{l k:Nat}{cs:List AV}{v:AV}(h0:h[l]? = some cs)(h1:cs[k]? = some v):cC T t (.hp l k) h= .ok v h:=by
 simp[cC,ht,h0,ha,h1]
def po{T:TT}{t:Nat}{ti:TI}(ht:T t=some ti){h:Hp}{l k:Nat}{cs:List AV}{v:AV}(h0:h[l]? = some cs)(hv:bQ ti.size v=true)(hle:k+ti.size<=cs.length)(hp:0<ti.size):
  cQ T t (.hp l k) v h= .ok (.tup []) (h.set l (setCells cs k (ab v))):=by
 simp[cQ,ht,h0,hv,hle,hp]
def yQ(a b:Int):Int:=IntKind.i64.wrap (BitVec.ofInt 64 a &&& BitVec.ofInt 64 b).toNat
theorem wrap64(n:Nat)(h:n<18446744073709551616):IntKind.i64.wrap (n:Int)=if 9223372036854775808<=n then(n:Int)-18446744073709551616 else(n:Int):=by
 have e:IntKind.i64.wrap (n:Int)=if decide ((n:Int) % 18446744073709551616 >= 9223372036854775808)=true then(n:Int) % 18446744073709551616-18446744073709551616 else(n:Int) % 18446744073709551616:=rfl;rw[e];have:(n:Int) % 18446744073709551616=n:=by omega
 rw[this];simp only[DU];split<;>split<;>omega
def xT{a:Int}(h1:-9223372036854775808<=a)(h2:a<=9223372036854775807):IntKind.i64.wrap ((BitVec.ofInt 64 a).toNat:Int)=a:=by
 have hv:=(BitVec.ofInt 64 a).isLt;rw[wrap64 _ hv,BitVec.toNat_ofInt];simp;split<;>omega
def lK{a b:Int}(h1:-9223372036854775808<=a)(h2:a<=9223372036854775807)(h:(eP a b== 0)=true):yQ a b=a:=by
 rw[p7]at h;have:BitVec.ofInt 64 a &&& BitVec.ofInt 64 b=BitVec.ofInt 64 a:=by
  generalize BitVec.ofInt 64 a=x at *;generalize BitVec.ofInt 64 b=y at *;apply BitVec.eq_of_getLsbD_eq;intro i hi;have e1:=DL (·.getLsbD i) h;simp only[BitVec.getLsbD_and,BitVec.getLsbD_not,hi,Ex,Fq,BitVec.getLsbD_zero]at e1 |-;generalize x.getLsbD i=p at *;generalize y.getLsbD i=q at *;clear h;revert p q;decide
 unfold yQ;rw[this,xT h1 h2]
end Go.Av.Ap
