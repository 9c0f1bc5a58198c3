/- The abstract evaluator of the model and plain laws, part 4: its soundness holds for every program whose table of types is the evaluator's. No further condition. -/
import Derived.Test.YteemeakjlfnapaaGreatDoorLc
import Derived.ChangeSame
import Derived.OpenShut
import Derived.ChangeReads
import Derived.ReadAgain
import Derived.Deep.Slices
import Derived.WideShapes
import Derived.SizedLaws
import Derived.Sort.AssemblyPlain
import Derived.Sort.MapsRangeIn
import Derived.Maps.OwnIn
import Derived.RangeFuncSeq
set_option linter.defProp false
set_option linter.unusedSimpArgs false
set_option linter.unusedVariables false
namespace Go.Av
variable [Dr]
open Go.RowKit Go.WideShapes Go.ChangeShapes
theorem Left.below{S S':ar}{β β':List a6}{w w':World}{h':Hp}(L:Left (bo [] []) S β w S' β' w' h'):Below w.heap.size w w':=
 ⟨L.gro.os,L.gro.tape,L.gro.out,L.gro.size,fun k hk=>(L.keep k hk (by rintro⟨l,_,_,h1,_⟩;simp at h1)).1⟩
def gG(W:World):ar:=fun b o=>W.cell? ⟨b,o,none⟩
omit [Dr]in
theorem xH(W:World):Wf (gG W) W:=fun _ _ _ h=>h
omit [Dr]in
theorem uh{W:World}(h:GOKw W):mU [] [] W:=⟨h,fun b _ ho=>by obtain⟨l,_,_,h1,_⟩:=ho;simp at h1⟩
theorem uo{P:Program}{p:Pg}(G:GoodPg P p)(hO:cH p){f:FuncId}{args:List AV}{vs:List Value}{W:World}(hg:GOKw W)(hv:aH (gG W) [] args vs)(ht:ai p f args []= .ok (.bool true) []):Calls P f vs.toArray W fun e W'=>e= .returned (.bool true)/\Below W.heap.size W W':=by
 have h:=(gO G hO f args [] (gG W) [] W vs (by rw[ht];simp) (uh hg) (xH W) ⟨rfl,fun _=>.no,fun l cs hl=>by simp at hl⟩ hv).1;rw[ht]at h;refine h.mono fun e W' hp=>?_;obtain⟨S',β',v,rfl,hv,L,_⟩:=hp;simp only[VR]at hv;subst hv;exact⟨rfl,L.below⟩
section
variable {H:Type} {enc:TypeId×Value->H} {P:Program}
omit [Dr]in
theorem nc{f:Func}{s:ChangeSpec}{apart fresh handsOn again:Bool}{W W':World}{args:Array Value}{v:Value}{ds gs:List (DataW H)}{before pa pv:List MemPlace}(hW:DataW.Whole enc P f.params.toList s.vars apart W args.toList ds gs before)(hres:∀(b:Nat)(sp:Nat->Bool)(hd:Bool),DataW.TrodAll enc P W' b sp hd f.resultTypes.toList (v.resultList f.resultTypes.size) (s.fn H (ds++gs)).results [])(hargs:∀sp:Nat->Bool,(∀p∈before,sp p.block=true)->DataW.TrodAll enc P W' 0 sp true f.params.toList args.toList (s.fn H (ds++gs)).args pa)(hvars:∀sp:Nat->Bool,(∀p∈before,sp p.block=true)->DataW.TrodVars enc P W' sp s.vars (s.fn H (ds++gs)).vars pv)(hps:before=pa++pv)(hb:Below W.heap.size W W')(hok:∀(j:Nat)(t:TypeId)(r:Value),f.resultTypes[j]? = some t->(v.resultList f.resultTypes.size)[j]? = some r->Value.okWide P W' .any 0 t r):
  s.post enc P f apart fresh handsOn again W args v W':=by
 have hlt:∀p∈before,p.block<W.heap.size:=fun p hp=>hW.lt p hp;have hold:∀p∈before,(fun b=>decide (b<W.heap.size)) p.block=true:=fun p hp=>by simpa using hlt p hp
 refine⟨ds,gs,before,[],pa,pv,hW,hres _ _ _,hargs _ hold,hvars _ hold,World.keptBut_mono (fun p hp=>⟨hp,?_⟩) (hb.frame (· ∈before)),fun _=>?_⟩
 ·rw[hps,ER]at hp;exact Or.inr hp
 ·obtain⟨_,_,_,_,_,hz,hn⟩:=hW;refine⟨hok,_,_,([]++pa)++pv,⟨[]++pa,pv,trodAll_append (hargs _ (fun _ _=>rfl)) (hres _ _ _),hvars _ (fun _ _=>rfl),rfl,?_,?_⟩,?_⟩
  ·intro b off hp;have hin:MemPlace.cell b off∈before:=by rw[hps];simpa using hp
   rw[hb.frozen (hlt _ hin)];exact hz b off hin
  ·intro ha
   have:=hn ha
   rw[hps]at this;simpa using this
  ·intro p hp _;rw[hps];simpa using hp
end
end Go.Av
namespace Go.Av.Ap
open Go Go.Av
theorem bA:(a:bI)->aC a a=false
 |[]=>rfl
 |x:: a=>by simp[aC,bA a]
theorem b9:(a b c:bI)->aC a b=true->aC b c=true->aC a c=true
 |_,[],c,h,_=>by cases ‹bI› <;> simp[aC]at h
 |_,_:: _,[],_,h=>by simp[aC]at h
 |[],_:: _,_:: _,_,_=>by simp[aC]
 | x:: a,y:: b,z:: c,h1,h2=>by
  simp only[aC,Ft,Em,Ew,Fw,UInt8.lt_iff_toNat_lt]at h1 h2 |-;rcases h1 with h1|⟨rfl,h1⟩
  ·rcases h2 with h2|⟨rfl,h2⟩
   ·exact .inl (by omega)
   ·exact .inl h1
  ·rcases h2 with h2|⟨rfl,h2⟩
   ·exact .inl h2
   ·exact .inr ⟨rfl,b9 a b c h1 h2⟩
theorem cY:(a b:bI)->aC a b=false->a≠b->aC b a=true
 |[],[],_,h=>absurd rfl h
 |[],_:: _,h,_=>by simp[aC]at h
 |_:: _,[],_,_=>by simp[aC]
 | x:: a,y:: b,h1,h2=>by
  simp only[aC,F9,FU,Ft,Em,Ew,Fw,UInt8.lt_iff_toNat_lt]at h1 |-;by_cases e:x=y
  ·subst e;refine .inr ⟨rfl,cY a b ?_ fun e=>h2 (by rw[e])⟩;simpa using h1.2
  ·refine .inl ?_;have:x.toNat≠y.toNat:=fun e'=>e (UInt8.toNat_inj.1 e');omega
def rt(p f:bI):df p f=true↔aC p f=true:=by
 unfold df;rw[E8,F9];constructor
 ·rintro⟨h1,h2⟩;exact cY f p h1 (Fh.1 h2)
 ·intro h;refine⟨?_,?_⟩
  ·cases hc:aC f p with
   |false=>rfl
   |true=>exact absurd (b9 _ _ _ h hc) (by simp[bA])
  ·rw[Fh];rintro rfl;rw[bA]at h;cases h
theorem jR{α:Type}{Q:α->α->Bool}{nm:α->bI}(hQ:∀x y,Q x y=true->aC (nm x) (nm y)=true):(l:List α)->fO Q l=true->l.Pairwise fun x y=>aC (nm x) (nm y)=true
 |[],_=>.nil
 |[x],_=>by simp
 |x:: y:: r,h=>by
  simp only[fO,Em]at h;have ih:=jR hQ (y:: r) h.2;refine .cons (fun z hz=>?_) ih;have h1:=hQ _ _ h.1;rcases EB.1 hz with rfl|hz
  ·exact h1
  ·exact b9 _ _ _ h1 ((FB.1 ih).1 z hz)
theorem nO{α:Type}{nm:α->bI}:{l:List α} ->(l.Pairwise fun x y=>aC (nm x) (nm y)=true)->{x:α} ->x∈l->l.find? (fun z=>nm z== nm x)=some x
 | y:: l,h,x,hx=>by
  rcases EB.1 hx with rfl|hx
  ·simp
  ·have h1:=(FB.1 h).1 x hx;have:(nm y== nm x)=false:=by
    rw[Fh];intro e;rw[e,bA]at h1;cases h1
   simp only[List.find?_cons,this];exact nO (FB.1 h).2 hx
theorem mf{α:Type}{p:α->Bool}:{l:List α} ->(∀z∈l,p z=false)->cj p l=none
 |[],_=>rfl
 |z:: l,h=>by simp[cj,mf (l:=l) fun y hy=>h y (by simp[hy]),h z (by simp)]
theorem nY{α:Type}{nm:α->bI}:{l:List α} ->(l.Pairwise fun x y=>aC (nm x) (nm y)=true)->{x:α} ->x∈l->cj (fun z=>nm z== nm x) l=some x
 | y:: l,h,x,hx=>by
  rcases EB.1 hx with rfl|hx
  ·have:cj (fun z=>nm z== nm x) l=none:=mf fun z hz=>by
    rw[Fh];intro e;have h1:=(FB.1 h).1 z hz;rw[e,bA]at h1;cases h1
   simp[cj,this]
  ·simp[cj,nY (FB.1 h).2 hx]
theorem kz:(d:Nat)->(t:Ty)->cD d t=true->iH t t=true
 |0,_,h=>by cases h
 |d+1,t,h=>by
  rw[eT]at h;simp only[Em,Et]at h;have hp:=jR (nm:=fun f:dV=>f.1) (fun x y h=>(rt _ _).1 h) _ h.2.2;rw[nz];simp only[Gc,FA,Et];intro f hf;rw[nY (nm:=fun f:dV=>f.1) hp hf];exact kz d f.2 (h.2.1 f hf).2
def oD{t:Ty}(h:bR t=true):pD t t=true:=by
 unfold pD;rw[h,kz 4 t h];rfl
theorem np{α:Type}{F:α->α->Bool}:{l:List α} ->(∀x∈l,F x x=true)->mY F l l=true
 |[],_=>rfl
 |x:: l,h=>by simp[mY,h x (by simp),np (l:=l) fun y hy=>h y (by simp[hy])]
theorem qi(a b:Int):(dt a b== 0)=true↔BitVec.ofInt 64 a &&& ~~~ BitVec.ofInt 64 b=0#64:=by
 unfold dt;generalize BitVec.ofInt 64 a &&& ~~~ BitVec.ofInt 64 b=v;have hv:=v.isLt;rw[Fw];constructor
 ·intro h;apply BitVec.eq_of_toNat_eq;show v.toNat=0;have e:IntKind.i64.wrap (v.toNat:Int)=if decide ((v.toNat:Int) % 18446744073709551616 >= 9223372036854775808)=true then(v.toNat:Int) % 18446744073709551616-18446744073709551616 else(v.toNat:Int) % 18446744073709551616:=rfl;rw[e]at h;split at h<;>omega
 ·intro h;rw[h];rfl
def oZ(a:Int):(dt a a== 0)=true:=(qi a a).2 (by
 apply BitVec.eq_of_getLsbD_eq;intro i hi;simp only[BitVec.getLsbD_and,BitVec.getLsbD_not,hi,Fu,FA,BitVec.getLsbD_zero,Bool.and_not_self])
def kk{s:Sig}(h:dM s=true):sU s s=true:=by
 unfold dM at h;simp only[Em,Et]at h;unfold sU;rw[np fun t ht=>oD (h.2 t ht),oD h.1.2,oZ];rfl
def od(old now:Face):gC old now=none↔∀f∈old.funcs,fw now f=true:=by
 unfold gC;simp
def uv{a:Face}(h:cw a=true):gC a a=none:=by
 rw[od];intro f hf;unfold cw at h;simp only[Em,Et]at h;have hp:=jR (nm:=fun f:Sig=>f.name) (fun x y h=>h) _ h.2.2;unfold fw iA;rw[nO (nm:=fun f:Sig=>f.name) hp hf];exact kk (h.2.1 f hf)
def iR(a b:Face):ew a b=true↔a.module=b.module/\cw a=true/\cw b=true:=by
 unfold ew;simp only[Em,Fw,and_assoc]
def qQ(a b:Face):ew a b=ew b a:=by
 rw[F6,iR,iR];exact⟨fun⟨x,y,z⟩=>⟨x.symm,z,y⟩,fun⟨x,y,z⟩=>⟨x.symm,z,y⟩⟩
def i6(a:Face):dj a a=(if cw a=true then 0 else 2,[]):=by
 unfold dj;cases h:cw a with
 |false=>simp[ew,h]
 |true=>simp[ew,h,uv h]
end Go.Av.Ap
namespace Go.Av
open Go.RowKit
section
variable {H:Type} {enc:TypeId×Value->H} {P:Program} {w w':World}
theorem iC{base:Nat}{spare:Nat->Bool}{held:Bool}:∀ {ts:List TypeId} {vs:List Value} {ds:List (DataW H)} {ps:List MemPlace},DataW.TrodAll enc P w base spare held ts vs ds ps->(∀p∈ps,w.sameAt w' p)->DataW.TrodAll enc P w' base spare held ts vs ds ps
 |[],[],[],_,h,_=>h
 |_:: _,_:: _,_:: _,_,⟨p,q,⟨n,h1⟩,h2,e⟩,hs=>⟨p,q,⟨n,DataW.trod_carry n _ _ _ h1 (fun x hx=>hs x (by rw[e];exact Gs _ hx))⟩,iC h2 (fun x hx=>hs x (by rw[e];exact Gn _ hx)),e⟩
theorem px(hb:Below w.heap.size w w'){p:MemPlace}(hp:p.block<w.heap.size):w.sameAt w' p:=by
 cases p with
 |cell b off=>
  have:=hb.block b hp
  show w'.cell? ⟨b,off,none⟩=w.cell? ⟨b,off,none⟩;simp only[World.cell?,this]
 |map b=>exact hb.block b hp
theorem rF{T:TypeId->Prop}(K:Kids P T)(hz:∀t e,T t->P.underlying t=some (.slice e)->0<P.cellsOf e){ts:List TypeId}{vs:List Value}{ds:List (DataW H)}{ps:List MemPlace}(hT:∀t∈ts,T t)(h:DataW.TrodAll enc P w 0 (fun _=>true) true ts vs ds ps)(hlt:∀p∈ps,p.block<w.heap.size)(hb:Below w.heap.size w w')(sp:Nat->Bool)(hsp:∀p∈ps,sp p.block=true):DataW.TrodAll enc P w' 0 sp true ts vs ds ps:=
 (iC h fun p hp=>px hb (hlt p hp)).respare K hz hT hsp
end
theorem tf{α:Type}(Q:Nat->α->Prop):∀n,(∀i,i<n->∃x,Q i x)->∃l:List α,l.length=n/\∀i x,l[i]? = some x->Q i x
 |0,_=>⟨[],rfl,fun i x h=>by simp at h⟩
 | n+1,h=>by
  obtain⟨l,h1,h2⟩:=tf Q n fun i hi=>h i (by omega);obtain⟨y,hy⟩:=h n (by omega);refine⟨l++[y],by simp[h1],fun i x hx=>?_⟩;by_cases hi:i<n
  ·rw[Ey (by omega)]at hx;exact h2 i x hx
  ·rw[EJ (by omega)]at hx;have hin:i-l.length=0:=by
    rcases E1 (i-l.length)with h|h
    ·exact h
    ·rw[Eu (by simp;omega)]at hx;cases hx
   rw[hin]at hx;simp only[EP,Ek]at hx;subst hx;obtain rfl:i=n:=by omega
   exact hy
end Go.Av
namespace Go.Av
open Go.RowKit Go.WideShapes Go.ChangeShapes
section
variable {H:Type} (enc:TypeId×Value->H) (P:Program) (W:World)
def Rd{α:Type}(N:Nat)(t:TypeId)(cells:α->List AV)(Ok:α->Prop):Prop:=∀(base:Nat)(held:Bool)(n:Nat),n<N->∀(cs:List Value)(x:DataW H×List MemPlace),DataW.trod enc P W base (fun _=>true) held n t cs=some x->(∀k∈x.1.weights P t,k<=reachBytes)->∃a:α,aH (gG W) [] (cells a) cs/\Ok a
def xG{α:Type}(N:Nat)(tot:Nat)(o:Nat)(fs:List Field)(cells:α->List AV)(Ok:α->Prop):Prop:=∀(base:Nat)(held:Bool)(n:Nat),n<N->∀(cs:List Value)(xs:List (DataW H×List MemPlace)),cs.length=tot->
 xs.length=fs.length->(∀(i:Nat)(f:Field),fs[i]? = some f->DataW.trod enc P W base (fun _=>true) held n f.type ((cs.drop f.offset).take (P.cellsOf f.type))=xs[i]?)->(∀k∈DataW.weightsEach P (fs.map (·.type)) (xs.map (·.1)),k<=reachBytes)->∃a:α,aH (gG W) [] (cells a) (cs.drop o)/\Ok a
variable {enc P W} {α β:Type} {N:Nat} {t:TypeId}
theorem Rd.zero{cells:α->List AV}{Ok:α->Prop}:Rd enc P W 0 t cells Ok:=fun _ _ n hn=>absurd hn (by omega)
theorem Rd.le{cells:α->List AV}{Ok:α->Prop}(h:Rd enc P W N t cells Ok){M:Nat}(hm:M<=N):Rd enc P W M t cells Ok:=fun b hd n hn=>h b hd n (by omega)
theorem Rd.map{cells:α->List AV}{Ok:α->Prop}(h:Rd enc P W N t cells Ok)(g:α->β){cells':β->List AV}{Ok':β->Prop}(hc:∀a,cells' (g a)=cells a)(ho:∀a,Ok a->Ok' (g a)):Rd enc P W N t cells' Ok':=by
 intro b hd n hn cs x hx hw;obtain⟨a,h1,h2⟩:=h b hd n hn cs x hx hw;exact⟨g a,by rw[hc];exact h1,ho a h2⟩
theorem tv(ht:P.underlying t=some .bool):Rd enc P W N t (fun b:Bool=>[.bool b]) (fun _=>True):=by
 intro b hd n hn cs x hx hw;obtain⟨b,rfl,_⟩:=DataW.trod_bool ht hx;exact⟨b,by simp[aH,VR],trivial⟩
theorem mH{k:IntKind}(ht:P.underlying t=some (.int k)):Rd enc P W N t (fun n:Int=>[.int k n]) (fun n=>(Lit.int k n).wf=true):=by
 intro b hd n hn cs x hx hw;obtain⟨b,rfl,_,hwf⟩:=DataW.trod_int ht hx;exact⟨b,by simp[aH,VR],hwf⟩
theorem ki(ht:P.underlying t=some .string):Rd enc P W N t (fun s:List UInt8=>[.str s]) (fun s=>s.length<=reachBytes):=by
 intro b hd n hn cs x hx hw;obtain⟨s,rfl,rfl,_⟩:=DataW.trod_string ht hx;exact⟨s.data.toList,by simp[aH,VR],hw _ (by simp[DataW.weights])⟩
def zr(cells:α->List AV)(ev:α->AV)(sz:Nat):Prop:=∀(a:α)(S:ar)(β:List a6)(vs:List Value),aH S β (cells a) vs->vs.length=sz->∃v,VR S β (ev a) v/\v.cells.toList=vs
theorem jV{cells:α->List AV}{ev:α->AV}{sz:Nat}(he:∀a,ev a= .agg (cells a)):zr cells ev sz:=fun a S β vs h hl=>⟨.agg vs.toArray,by rw[he];simp only[VR];exact⟨vs,rfl,h⟩,by simp[Value.cells]⟩
theorem wb{ev:α->AV}(ho:∀a,aL (ev a)=true):zr (fun a=>[ev a]) ev 1:=fun a S β vs h hl=>by
 simp only[aH]at h;obtain⟨v,_,rfl,h,rfl⟩:=h;exact⟨v,h,by rw[(fg (ho a) h).1]⟩
theorem hJ{e:TypeId}:∀ {l:List (DataW H)} {d:DataW H},d∈l->∀k∈d.weights P e,k∈DataW.weightsAll P e l
 |x:: l,d,hd,k,hk=>by
  simp only[DataW.weightsAll,ER];rcases EB.1 hd with rfl|hd
  ·exact .inl hk
  ·exact .inr (hJ hd k hk)
theorem jE{e:TypeId}{cells:α->List AV}{Ok:α->Prop}(h:Rd enc P W N e cells Ok)(ht:P.underlying t=some (.slice e)){sz by_:Nat}(hsz:P.cellsOf e=sz)(h0:0<sz)(hby:P.bytesOf e=by_){ev:α->AV}(hev:zr cells ev sz):
  Rd enc P W N t (fun l:List α=>[.sl (l.map ev)]) (fun l=>l.length*by_<=reachBytes/\∀a∈l,Ok a):=by
 intro base hd n hn cs x hx hw;rcases DataW.trod_slice ht hx with⟨rfl,rfl⟩|⟨a,len,cap,elems,rest,m,rfl,rfl,rfl,hb,hle,hm,hlen,hel,hsp,_⟩
 ·exact⟨[],by simp only[aH,List.map_nil,VR];exact⟨_,_,rfl,⟨none,0,rfl,En _,fun _=>rfl,fun q hq=>by cases hq⟩,rfl⟩,by simp,fun a ha=>by cases ha⟩
 obtain⟨hrl,hre⟩:=hsp rfl;rw[hsz]at hel hre;simp only[DataW.weights,ht,EB,ER,hby]at hw;have hspot:0<cap->a.spot=none:=by
  intro hc;have:∃y,(W.cells? base (a.add 0) sz).bind (DataW.trod enc P W base (fun _=>true) hd m e)=some y:=by
   by_cases h1:0<len
   ·have:=hel 0 h1
    rw[Ex (by omega)]at this;exact⟨_,by simpa using this⟩
   ·have:=hre 0 (by omega)
    rw[Ex (by omega)]at this;obtain rfl:len=0:=by omega
    exact⟨_,by simpa using this⟩
  obtain⟨y,hy⟩:=this;obtain⟨cs,hcs,_⟩:=Hn.1 hy;obtain⟨_,hl,hc⟩:=World.cells?_some hcs;have h2:=hc 0 h0;rw[Ex (by omega)]at h2;have h3:=World.cell?_spot h2;have e:(a.add 0).add 0=a:=by unfold Addr.add;simp
  rwa [e]at h3
 have hx:∀i,i<len->∃y:α,(∃v,VR (gG W) [] (ev y) v/\v.cells.size=sz/\dX (gG W) a.block (a.off+i*sz) v.cells.toList)/\Ok y:=by
  intro i hi;have h1:=hel i hi;rw[Ex (by omega)]at h1;obtain⟨cs,hcs,htr⟩:=Hn.1 h1;obtain⟨y,hy,hok⟩:=h base hd m (by omega) cs _ htr (fun k hk=>hw k (.inr (.inl (hJ (Fg.2 ⟨_,EF _,rfl⟩) k hk))));obtain⟨_,hl,hc⟩:=World.cells?_some hcs;obtain⟨v,hv,hvc⟩:=hev y _ _ cs hy hl;refine⟨y,⟨v,hv,by rw[<- Fa,hvc,hl],fun j u hj=>?_⟩,hok⟩;rw[hvc]at hj;have hjl:j<sz:=by
   rcases EC j cs.length with h|h
   ·omega
   ·rw[Eu h]at hj;cases hj
  have h2:=hc j hjl;rw[hj]at h2;unfold gG;have hs:=hspot (by omega);have e:(a.add (i*sz)).add j=⟨a.block,a.off+i*sz+j,none⟩:=by
   obtain⟨b,o,s⟩:=a;simp only at hs;subst hs;rw[add_plain,add_plain]
  rw[<- e];exact h2
 obtain⟨l,hl1,hl2⟩:=tf (fun i y=>(∃v,VR (gG W) [] (ev y) v/\v.cells.size=sz/\dX (gG W) a.block (a.off+i*sz) v.cells.toList)/\Ok y) len hx;refine⟨l,?_,?_,fun y hy=>?_⟩
 ·simp only[aH,VR,ET];refine⟨_,_,rfl,⟨some a,cap,by rw[hl1],by omega,(fun e=>by cases e),fun q hq=>?_⟩,rfl⟩;cases hq;refine⟨hspot,sz,.of_get fun i e he=>?_⟩;rw[Fj,Fl]at he;obtain⟨y,hy,rfl⟩:=he;exact (hl2 i y hy).1
 ·have:=hw _ (.inl rfl)
  simp only[ET]at this;have h3:=EA by_ (show l.length<=elems.length+rest.length by omega);omega
 ·obtain⟨i,hi,e⟩:=List.getElem_of_mem hy;exact (hl2 i y (by rw[Ex hi,e])).2
theorem fY{tot:Nat}:xG enc P W N tot tot [] (fun _:Unit=>[]) (fun _=>True):=fun base hd n hn cs xs hl _ _ _=>⟨(),by simp[aH,<- hl],trivial⟩
theorem aU{tot o k:Nat}{f:Field}{fs:List Field}{c1:α->List AV}{Ok1:α->Prop}{c2:β->List AV}{Ok2:β->Prop}(h1:Rd enc P W N f.type c1 Ok1)(ho:f.offset=o)(hk:P.cellsOf f.type=k)(h2:xG enc P W N tot (o+k) fs c2 Ok2):
  xG enc P W N tot o (f:: fs) (fun x:α×β=>c1 x.1++c2 x.2) (fun x=>Ok1 x.1/\Ok2 x.2):=by
 intro base hd n hn cs xs hl hx hf hw
 match xs,hx with
 |x:: xs,hx=>
  have hf0:=hf 0 f rfl;rw[ho,hk]at hf0;simp only[EN,DataW.weightsEach,ER]at hw;obtain⟨a,ha,oa⟩:=h1 base hd n hn _ x hf0 fun k hk=>hw k (.inl hk);obtain⟨b,hb,ob⟩:=h2 base hd n hn cs xs hl (by simpa using hx) (fun i g hg=>by simpa using hf (i+1) g (by simpa using hg)) fun k hk=>hw k (.inr hk);refine⟨(a,b),?_,oa,ob⟩
  have:=ha.append hb
  rwa [<- GE,FO]at this
theorem fh{fs:Array Field}{tot:Nat}{cells:α->List AV}{Ok:α->Prop}(ht:P.underlying t=some (.struct fs))(hc:P.cellsOf t=tot)(h:xG enc P W N tot 0 fs.toList cells Ok):Rd enc P W (N+1) t cells Ok:=by
 intro base hd n hn cs x hx hw;obtain⟨xs,m,rfl,rfl,hl,hxs,hf⟩:=DataW.trod_struct ht hx;simp only[DataW.weights,ht]at hw;obtain⟨a,h1,h2⟩:=h base hd m (by omega) cs xs (by rw[hl,hc]) (by simpa using hxs) (fun i f hi=>hf i f (by simpa using hi)) hw;exact⟨a,by simpa using h1,h2⟩
theorem wZ{cells:α->List AV}{Ok:α->Prop}(h:∀N,Rd enc P W N t cells Ok){base:Nat}{held:Bool}{v:Value}{d:DataW H}{p:List MemPlace}(hd:DataW.Trod enc P W base (fun _=>true) held t v d p)(hw:∀k∈d.weights P t,k<=reachBytes):
  ∃a:α,aH (gG W) [] (cells a) v.cells.toList/\Ok a:=by
 obtain⟨n,hn⟩:=hd;exact h (n+1) base held n (by omega) _ _ hn hw
theorem yJ{f:α->AV}{Ok:α->Prop}(h:∀N,Rd enc P W N t (fun a=>[f a]) Ok){base:Nat}{held:Bool}{v:Value}{d:DataW H}{p:List MemPlace}(hv:v.cells.toList=[v])(hd:DataW.Trod enc P W base (fun _=>true) held t v d p)(hw:∀k∈d.weights P t,k<=reachBytes):
  ∃a:α,VR (gG W) [] (f a) v/\Ok a:=by
 obtain⟨a,h1,h2⟩:=wZ h hd hw;rw[hv]at h1;simp only[aH]at h1;obtain⟨y,ys,e,h1,rfl⟩:=h1;cases e;exact⟨a,h1,h2⟩
theorem xL{k:IntKind}{r:Reach}{b0:Nat}{f:α->AV}{Ok:α->Prop}(h:∀N,Rd enc P W N t (fun a=>[f a]) Ok)(ht:P.underlying t=some (.int k)){base:Nat}{held:Bool}{v:Value}{d:DataW H}{p:List MemPlace}(hok:Value.okWide P W r b0 t v)(hd:DataW.Trod enc P W base (fun _=>true) held t v d p)(hw:∀k∈d.weights P t,k<=reachBytes):∃a:α,VR (gG W) [] (f a) v/\Ok a:=by
 obtain⟨a,rfl⟩:=okWide_int ht hok;exact yJ h rfl hd hw
theorem rE{fs:Array Field}{r:Reach}{b0:Nat}{f:α->AV}{Ok:α->Prop}{cells:α->List AV}(h:∀N,Rd enc P W N t cells Ok)(hf:∀a,f a= .agg (cells a))(ht:P.underlying t=some (.struct fs)){base:Nat}{held:Bool}{v:Value}{d:DataW H}{p:List MemPlace}(hok:Value.okWide P W r b0 t v)(hd:DataW.Trod enc P W base (fun _=>true) held t v d p)(hw:∀k∈d.weights P t,k<=reachBytes):∃a:α,VR (gG W) [] (f a) v/\Ok a:=by
 obtain⟨cs,rfl,_⟩:=okWide_struct ht hok;obtain⟨a,h1,h2⟩:=wZ h hd hw;refine⟨a,?_,h2⟩;rw[hf];simp only[VR];exact⟨cs.toList,by simp,h1⟩
theorem lL{ts:List TypeId}{ds:List (DataW H)}(h:(DataW.weightsEach P ts ds).all (· <=reachBytes)=true){j:Nat}{u:TypeId}{d:DataW H}(ht:ts[j]? = some u)(hd:ds[j]? = some d):∀k∈d.weights P u,k<=reachBytes:=fun k hk=>by
 have:=Et.1 h _ (DataW.weights_mem_each ht hd k hk)
 simpa using this
end
end Go.Av
namespace Go.Av.Ap
open Go Go.Av
def eW(e:Exp):Exp×Int:=
 if e.op=0\/e.op=1 then(.mk e.op e.n [] [] [] e.args,0)
 else if e.op=2\/e.op=17 then(.mk e.op 0 e.s [] [] e.args,0)
 else if e.op=18\/e.op=14 then(.mk e.op 0 e.s [] [] e.args,1)
 else if e.op=16 then(.mk e.op e.n [] [] [] e.args,1)
 else if e.op=10 then(.mk e.op 0 [] [] [] e.args,1)
 else if e.op=12 then(.mk e.op 0 e.s [] [] e.args,2)
 else if e.op=11 then(.mk e.op 0 [] [] [] e.args,3)
 else if e.op=13 then(.mk e.op 0 [] [] e.names e.args,e.names.length)
 else if e.op=15 then(.mk e.op 0 e.s e.m [] e.args,-1)
 else(.mk e.op 0 [] [] [] e.args,2)
def wQ(l:List bI):Bool:=(l.all bz&&fO df l)&&decide (l.length<=8)
def eO(e:Exp):Bool:=
 if e.op=0 then decide (0<=e.n)&&decide (e.n<=1099511627776)
 else if e.op=1 then e.n== 0||e.n== 1
 else if e.op=16 then((e.n== 1||e.n== 2)||e.n== 4)||e.n== 8
 else if e.op=2\/e.op=17\/e.op=18\/e.op=14\/e.op=12 then bz e.s
 else if e.op=15 then bz e.s&&(e.m== []||bz e.m)&&decide (e.args.length<=6)
 else if e.op=13 then wQ e.names
 else true
def sM(e:Exp):Bool:=
 decide (0<=e.op)&&decide (e.op<19)&&(decide ((eW e).2<0)||((eW e).2== (e.args.length:Int)))&&((eW e).1.n== e.n)&&((eW e).1.s== e.s)&&((eW e).1.m== e.m)&&(((eW e).1.names.length:Int)== (e.names.length:Int))&&eO e
def c9:Nat->Exp->Bool
 |0,_=>false
 |d+1,e=>sM e&&e.args.all (c9 d)
theorem q4(d:Nat)(e:Exp):c9 (d+1) e=(sM e&&e.args.all (c9 d)):=rfl
mutual
def D5:Ty->Ty->Option Ty
 |.mk k fs,b=>if k=b.kind then some (.mk k (CU fs b.fields))else none
def CU:List (bI×Ty)->List dV->List dV
 |[],_=>[]
 |f:: fs,l=>(match D4 f l with|some x=>[x]|none=>[])++CU fs l
def D4:bI×Ty->List dV->Option dV
 |(n,t),l=>match cj (fun z=>z.1== n) l with
  |some z=>(match D5 t z.2 with|some u=>some (n,u)|none=>none)
  |none=>none
end
abbrev tx(e:Exp):Bool:=c9 12 e
def pm:List bI->List dV->Bool
 |_,[]=>true
 |seen,f:: l=>!(seen.contains f.1)&&bz f.1&&bR f.2&&pm (seen++[f.1]) l
def dH(l:List dV)(most:Int):Bool:=pm [] l&&decide ((l.length:Int)<=most)
def jh(f:Fun):Bool:=bz f.name&&dH f.params 6&&bR f.result&&tx f.body&&(dt f.effects 15== 0)
def iB:List bI->List Fun->Bool
 |_,[]=>true
 |seen,f:: l=>!(seen.contains f.name)&&jh f&&iB (seen++[f.name]) l
def uz:List bI->List bI->Bool
 |_,[]=>true
 |seen,s:: l=>!(seen.contains s)&&bz s&&uz (seen++[s]) l
def kU(m:Mod):Bool:=bz m.name&&decide (m.uses.length<=12)&&decide (m.funcs.length<=30)&&dH m.vars 8&&(m.init.all tx&&((m.init.length:Int)== m.vars.length))&&(m.moves||decide (m.old.length=0)) &&
 (dH m.old 8&&(m.forward.all tx&&((m.forward.length:Int)== (if m.moves=true then(m.vars.length:Int)else 0)))&&(m.back.all tx&&((m.back.length:Int)== m.old.length)))
def bL(m:Mod):Bool:=uz [] m.uses&&(iB [] m.funcs&&kU m)
theorem jv:(l:List dV)->(seen:List bI)->pm seen l=true->(∀f∈l,bz f.1=true/\bR f.2=true/\f.1 ∉ seen)/\(l.map (·.1)).Nodup
 |[],seen,_=>⟨fun f h=>(by cases h),List.nodup_nil⟩
 | f:: l,seen,h=>by
  simp only[pm,Em,E8]at h;obtain⟨⟨⟨h1,h2⟩,h3⟩,h4⟩:=h;obtain⟨i1,i2⟩:=jv l _ h4;have h1':f.1 ∉ seen:=fun hm=>by rw[GQ.2 hm]at h1;cases h1
  refine⟨fun g hg=>?_,?_⟩
  ·rcases EB.1 hg with rfl|hg
   ·exact⟨h2,h3,h1'⟩
   ·obtain⟨j1,j2,j3⟩:=i1 g hg;exact⟨j1,j2,fun hm=>j3 (Gs _ hm)⟩
  ·rw[EN,FQ];refine⟨fun hm=>?_,i2⟩;obtain⟨g,hg,e⟩:=Fg.1 hm;exact (i1 g hg).2.2 (Gn _ (by rw[e];simp))
theorem im:(l:List Fun)->(seen:List bI)->iB seen l=true->(∀f∈l,jh f=true/\f.name ∉ seen)/\(l.map (·.name)).Nodup
 |[],seen,_=>⟨fun f h=>(by cases h),List.nodup_nil⟩
 | f:: l,seen,h=>by
  simp only[iB,Em,E8]at h;obtain⟨⟨h1,h2⟩,h4⟩:=h;obtain⟨i1,i2⟩:=im l _ h4;have h1':f.name ∉ seen:=fun hm=>by rw[GQ.2 hm]at h1;cases h1
  refine⟨fun g hg=>?_,?_⟩
  ·rcases EB.1 hg with rfl|hg
   ·exact⟨h2,h1'⟩
   ·obtain⟨j1,j3⟩:=i1 g hg;exact⟨j1,fun hm=>j3 (Gs _ hm)⟩
  ·rw[EN,FQ];refine⟨fun hm=>?_,i2⟩;obtain⟨g,hg,e⟩:=Fg.1 hm;exact (i1 g hg).2 (Gn _ (by rw[e];simp))
structure FunOk (f:Fun):Prop where
 name:bz f.name=true
 plen:f.params.length<=6
 pars:∀z∈f.params,bR z.2=true
 pnames:(f.params.map (·.1)).Nodup
 res:bR f.result=true
 body:c9 12 f.body=true
 eff:dt f.effects 15=0
def Ay{f:Fun}(h:jh f=true):FunOk f:=by
 unfold jh dH at h;simp only[Em,Ew,Fw]at h;obtain⟨⟨⟨⟨h1,h2,h3⟩,h4⟩,h5⟩,h6⟩:=h;obtain⟨i1,i2⟩:=jv _ _ h2;exact⟨h1,by omega,fun z hz=>(i1 z hz).2.1,i2,h4,h5,h6⟩
structure ModOk (m:Mod):Prop where
 name:bz m.name=true
 ulen:m.uses.length<=12
 flen:m.funcs.length<=30
 fns:∀f∈m.funcs,FunOk f
 fnames:(m.funcs.map (·.name)).Nodup
 vlen:m.vars.length<=8
 vars:∀z∈m.vars,bR z.2=true
 vnames:(m.vars.map (·.1)).Nodup
 ilen:m.init.length=m.vars.length
 init:∀e∈m.init,c9 12 e=true
 olen:m.old.length<=8
 old:∀z∈m.old,bR z.2=true
 wlen:m.moves=true->m.forward.length=m.vars.length
 forw:∀e∈m.forward,c9 12 e=true
 blen:m.back.length=m.old.length
 back:∀e∈m.back,c9 12 e=true
def gk{m:Mod}(h:bL m=true):ModOk m:=by
 unfold bL kU dH at h;simp only[Em,Ew,Fw,Et,Ft]at h;obtain⟨h1,h2,⟨⟨⟨⟨⟨h3,h4⟩,h5⟩,h6,h7⟩,h8,h9⟩,h10⟩,⟨⟨h11,h12⟩,h13,h14⟩,h15,h16⟩:=h;obtain⟨f1,f2⟩:=im _ _ h2;obtain⟨v1,v2⟩:=jv _ _ h6;obtain⟨o1,_⟩:=jv _ _ h11;exact⟨h3,h4,h5,fun f hf=>Ay (f1 f hf).1,f2,by omega,fun z hz=>(v1 z hz).2.1,v2,by omega,h8,by omega,fun z hz=>(o1 z hz).2.1,fun hm=>by rw[Es hm]at h14;omega,h13,by omega,h15⟩
end Go.Av.Ap
namespace Go.Av.Ap
open Go Go.Av
open Go.RowKit Go.Sort Go.Proofs in
def zm(keys:List bI)(n i j:Nat):ltOf (xE keys n) i j=aC keys[i % n]! keys[j % n]!:=by
 unfold ltOf xE rT;cases h1:aC keys[i % n]! keys[j % n]! with
 |true=>simp
 |false=>cases h2:aC keys[j % n]! keys[i % n]! <;> simp
open Go.RowKit Go.Sort Go.Proofs in
def CR(keys:List bI)(n:Nat):SWO (ltOf (xE keys n)):=by
 refine⟨fun x=>?_,fun x y z=>?_,fun x y z=>?_⟩
 ·rw[zm,bA]
 ·rw[zm,zm,zm];exact b9 _ _ _
 ·rw[zm,zm,zm];intro h1 h2;cases h3:aC keys[x % n]! keys[z % n]! with
  |false=>rfl
  | true=>
   exfalso;by_cases e:keys[x % n]! = keys[y % n]!
   ·rw[e,h2]at h3;cases h3
   ·have:=b9 _ _ _ (cY _ _ h1 e) h3
    rw[this]at h2;cases h2
open Go.RowKit Go.Sort Go.Proofs in
def mE(keys:List bI):(dU keys).Perm (List.range keys.length)/\(dU keys).Pairwise fun i j=>aC keys[j % keys.length]! keys[i % keys.length]! = false:=by
 have h:=pdq_sorts (ltOf (xE keys keys.length)) (CR keys keys.length) (Array.range keys.length) 0 (Array.range keys.length).size (Lib.bitLen (Array.range keys.length).size) true true (ES _) (En _) (Or.inl rfl);obtain⟨⟨hs,_,hp⟩,ho⟩:=h;unfold dU;generalize pdq (ltOf (xE keys keys.length)) (Array.range keys.length) 0 (Array.range keys.length).size (Lib.bitLen (Array.range keys.length).size) true true=d at hs hp ho;refine⟨?_,?_⟩
 ·rw[<- hs,Array.extract_size,hs,Array.extract_size]at hp;simpa using hp
 ·rw[List.pairwise_iff_getElem];intro i j hi hj hij;simp only[Fa]at hi hj
  have:=ho i j (ES _) hij (by omega)
  rw[EI d i hi,EI d j hj,zm]at this;simp only[Array.getElem_toList];exact this
def cW(l:List Sig):List Sig:=(dU (l.map (·.name))).map fun i=>l[i % l.length]!
def dp(l:List Sig):(cW l).Perm l:=by
 have h:=(mE (l.map (·.name))).1;rw[ET]at h;have h2:=h.map fun i=>l[i % l.length]!;refine h2.trans ?_;have e:(List.range l.length).map (fun i=>l[i % l.length]!)=l:=by
  apply GM
  ·simp
  ·intro i h1 h2;simp only[GN,G5];rw[Gq h2,EI l i h2]
 rw[e]
def pz(l:List Sig):(cW l).Pairwise fun a b=>aC b.name a.name=false:=by
 have h:=(mE (l.map (·.name))).2;unfold cW;rw[GG];rw[ET]at h;refine h.imp fun{i j} h=>?_;have e:∀i:Nat,(l.map (·.name))[i % l.length]! = (l[i % l.length]!).name:=fun i=>by
  by_cases hl:i % l.length<l.length
  ·rw[EI (l.map (·.name)) (i % l.length) (by rw[ET];exact hl),EI l (i % l.length) hl,GN]
  ·have h0:l=[]:=by
    rcases E1 l.length with h|h
    ·exact EK h
    ·exact absurd (Hu i h) hl
   subst h0;rfl
 rw[e,e]at h;exact h
def ee(f:Fun):Sig:=⟨f.name,f.params.map (·.2),f.result,f.effects⟩
def cL(l:List Fun):List Sig:=(l.filter (·.pub)).map ee
end Go.Av.Ap
namespace Go.Av.Ap
open Go Go.Av
def lP:Face:=⟨[],[]⟩
def ij(m:Mod):Face:=if bL m=true then⟨m.name,cW (cL m.funcs)⟩else lP
theorem mB:(l:List Fun)->(seen:List bI)->(∀f∈l,jh f=true/\f.name ∉ seen)->(l.map (·.name)).Nodup->iB seen l=true
 |[],_,_,_=>rfl
 | f:: l,seen,h,hn=>by
  rw[EN,FQ]at hn;obtain⟨h1,h2⟩:=h f E9;have h3:seen.contains f.name=false:=by
   cases hc:seen.contains f.name with
   |false=>rfl
   |true=>exact absurd (GQ.1 hc) h2
  have ih:=mB l (seen++[f.name]) (fun g hg=>⟨(h g (Fq _ hg)).1,fun hm=>by
   rcases ER.1 hm with hm|hm
   ·exact (h g (Fq _ hg)).2 hm
   ·rw[Gz]at hm;exact hn.1 (by rw[<- hm];exact FK (f:=(·.name)) hg)⟩) hn.2
  simp[iB,h1,h2,ih]
def sI{m:Mod}(h:bL m=true)(l:List Fun)(hl:l.length<=30)(hf:∀f∈l,jh f=true)(hn:(l.map (·.name)).Nodup):bL { m with funcs:=l } = true:=by
 unfold bL kU at h|-;simp only[Em,Ew]at h|-;obtain⟨h1,h2,⟨⟨⟨⟨⟨h3,h4⟩,h5⟩,h6⟩,h7⟩,h8⟩,h9⟩:=h;exact⟨h1,mB l [] (fun f h=>⟨hf f h,by simp⟩) hn,⟨⟨⟨⟨⟨h3,h4⟩,hl⟩,h6⟩,h7⟩,h8⟩,h9⟩
def fL(s:bI)(l:List Fun):Mod:=⟨s,[],[],[],l,false,[],[],[]⟩
def sJ{s:bI}(hs:bz s=true)(l:List Fun)(hl:l.length<=30)(hf:∀f∈l,jh f=true)(hn:(l.map (·.name)).Nodup):bL (fL s l)=true:=by
 have h:=mB l [] (fun f h=>⟨hf f h,by simp⟩) hn;unfold bL kU;simp[fL,uz,h,hs,hl,dH,pm]
def cg(e:Exp)(f:Fun):Fun:={ f with body:=e }
def yH{e:Exp}(he:c9 12 e=true){f:Fun}(h:jh f=true):jh (cg e f)=true:=by
 unfold jh at h|-;simp only[Em]at h|-;obtain⟨⟨⟨⟨h1,h2⟩,h3⟩,_⟩,h5⟩:=h;exact⟨⟨⟨⟨h1,h2⟩,h3⟩,he⟩,h5⟩
theorem xf(e:Exp)(f:Fun):ee (cg e f)=ee f:=rfl
theorem ot(e:Exp):(l:List Fun)->cL (l.map (cg e))=cL l
 |[]=>rfl
 |f:: l=>by
  have ih:=ot e l;unfold cL at ih |-;rw[EN,List.filter_cons,List.filter_cons];have:(cg e f).pub=f.pub:=rfl;rw[this];cases f.pub
  ·exact ih
  ·simp only[E4,EN,ih,xf]
def po(l:List Fun):cL l.reverse=(cL l).reverse:=by
 unfold cL;rw[List.filter_reverse,List.map_reverse]
def iT{l:List Fun}(hn:(l.map (·.name)).Nodup):((cL l).map (·.name)).Nodup:=by
 have e:(cL l).map (·.name)=(l.filter (·.pub)).map (·.name):=by
  unfold cL;rw[FP];rfl
 rw[e];exact hn.sublist ((List.filter_sublist (l:=l)).map _)
def mu{l:List Fun}{s:Sig}:s∈cL l↔∃f∈l,f.pub=true/\ee f=s:=by
 unfold cL;rw[Fg];constructor
 ·rintro⟨f,hf,rfl⟩;exact⟨f,(F5.1 hf).1,(F5.1 hf).2,rfl⟩
 ·rintro⟨f,hf,hp,rfl⟩;exact⟨f,F5.2 ⟨hf,hp⟩,rfl⟩
def gx{l:List Sig}(hn:(l.map (·.name)).Nodup):(cW l).Pairwise fun a b=>aC a.name b.name=true:=by
 have h1:=pz l;have h2:((cW l).map (·.name)).Nodup:=((dp l).map _).nodup_iff.2 hn;have h3:(cW l).Pairwise fun a b=>a.name≠b.name:=by
  have:=h2
  unfold List.Nodup at this;rw[GG]at this;exact this
 exact h1.imp₂ (fun a b x y=>cY _ _ x (Hs y)) h3
theorem oC:(l l':List Sig)->(l.Pairwise fun a b=>aC a.name b.name=true)->(l'.Pairwise fun a b=>aC a.name b.name=true)->(∀x,x∈l↔x∈l')->l=l'
 |[],[],_,_,_=>rfl
 |[],y:: l',_,_,h=>by have:=(h y).2 E9;cases this
 |x:: l,[],_,_,h=>by have:=(h x).1 E9;cases this
 | x:: l,y:: l',h1,h2,h=>by
  obtain⟨a1,a2⟩:=FB.1 h1;obtain⟨b1,b2⟩:=FB.1 h2;have no:∀ {s:Sig},aC s.name s.name=true->False:=fun hs=>by rw[bA]at hs;cases hs
  have e:x=y:=by
   rcases EB.1 ((h x).1 E9)with e|e
   ·exact e
   ·rcases EB.1 ((h y).2 E9)with e'|e'
    ·exact e'.symm
    ·exact absurd (b9 _ _ _ (b1 x e) (a1 y e')) fun h=>no h
  subst e;congr 1;refine oC l l' a2 b2 fun z=>⟨fun hz=>?_,fun hz=>?_⟩
  ·rcases EB.1 ((h z).1 (Fq _ hz))with e|e
   ·exact absurd (a1 z hz) fun h=>no (by rw[e]at h;exact h)
   ·exact e
  ·rcases EB.1 ((h z).2 (Fq _ hz))with e|e
   ·exact absurd (b1 z hz) fun h=>no (by rw[e]at h;exact h)
   ·exact e
def xj{l l':List Sig}(hp:∀x,x∈l↔x∈l')(hn:(l.map (·.name)).Nodup)(hn':(l'.map (·.name)).Nodup):cW l=cW l':=
 oC _ _ (gx hn) (gx hn') fun x=>by rw[(dp l).mem_iff,(dp l').mem_iff,hp]
theorem iy:(l:List Sig)->(l.Pairwise fun a b=>aC a.name b.name=true)->fO (fun a b:Sig=>aC a.name b.name) l=true
 |[],_=>rfl
 |[_],_=>rfl
 |x:: y:: l,h=>by
  obtain⟨a1,a2⟩:=FB.1 h;simp only[fO,Em];exact⟨a1 y E9,iy (y:: l) a2⟩
def kj{f:Fun}(F:FunOk f):dM (ee f)=true:=by
 unfold dM ee;simp only[Em,Ew,Fw,Et,ET];refine⟨⟨⟨⟨F.name,F.plen⟩,F.eff⟩,F.res⟩,fun t ht=>?_⟩;obtain⟨z,hz,rfl⟩:=Fg.1 ht;exact F.pars z hz
def dY{m:Mod}(h:bL m=true):ij m=⟨m.name,cW (cL m.funcs)⟩:=Es h
def gW{m:Mod}{s:Sig}:s∈cW (cL m.funcs)↔∃f∈m.funcs,f.pub=true/\ee f=s:=by rw[(dp _).mem_iff,mu]
def pj{m:Mod}(h:bL m=true):cw (ij m)=true:=by
 have M:=gk h;rw[dY h];unfold cw;simp only[Em,Ew,Et];refine⟨⟨M.name,?_⟩,fun s hs=>?_,iy _ (gx (iT M.fnames))⟩
 ·rw[(dp _).length_eq];unfold cL;rw[ET];exact F0 (Gp _ _) M.flen
 ·obtain⟨f,hf,_,rfl⟩:=gW.1 hs;exact kj (M.fns f hf)
def of_same{m m':Mod}(h:bL m=true)(h':bL m'=true)(hn:m.name=m'.name)(hp:∀x,x∈cL m.funcs↔x∈cL m'.funcs):ij m=ij m':=by
 rw[dY h,dY h',hn,xj hp (iT (gk h).fnames) (iT (gk h').fnames)]
theorem lR{α:Type}{p:α->Bool}{x:α}:{l:List α} ->x∈l->p x=true->(∀y∈l,p y=true->y=x)->l.find? p=some x
 | y:: l,hx,hp,hu=>by
  by_cases hy:p y=true
  ·rw[List.find?_cons_of_pos hy,hu y E9 hy]
  ·rw[List.find?_cons_of_neg hy];rcases EB.1 hx with e|hx
   ·rw[e]at hp;exact absurd hp hy
   ·exact lR hx hp fun z hz=>hu z (Fq _ hz)
theorem key_inj:{l:List Fun} ->(l.map (·.name)).Nodup->{f g:Fun} ->f∈l->g∈l->f.name=g.name->f=g
 | x:: l,hn,f,g,hf,hg,e=>by
  rw[EN,FQ]at hn;rcases EB.1 hf with a|a
  ·rcases EB.1 hg with b|b
   ·rw[a,b]
   ·exact absurd (by rw[<- a,e];exact FK (f:=(·.name)) b) hn.1
  ·rcases EB.1 hg with b|b
   ·exact absurd (by rw[<- b,<- e];exact FK (f:=(·.name)) a) hn.1
   ·exact key_inj hn.2 a b e
def qn{m:Mod}(h:bL m=true){f:Fun}(hf:f∈m.funcs):iA (ij m) f.name=if f.pub=true then some (ee f)else none:=by
 have M:=gk h;have uniq:∀g∈m.funcs,g.name=f.name->g=f:=fun g hg e=>by
  exact key_inj M.fnames hg hf e
 rw[dY h];unfold iA;split
 ·rename_i hp;refine lR (gW.2 ⟨f,hf,hp,rfl⟩) (by simp[ee]) fun y hy hy'=>?_;obtain⟨g,hg,_,rfl⟩:=gW.1 hy;have e:g.name=f.name:=Fw.1 hy';rw[uniq g hg e]
 ·rename_i hp;rw[GD];intro y hy hy';obtain⟨g,hg,gp,rfl⟩:=gW.1 hy;have e:g.name=f.name:=Fw.1 hy';rw[uniq g hg e]at gp;exact hp gp
theorem oU{m:Mod}(h:bL m=true){k:Nat}(hk:k<m.funcs.length):
  bL { m with funcs:=m.funcs.take k++m.funcs.drop (k+1) } = true/\
  (m.funcs[k].pub=true->dj (ij m) (ij { m with funcs:=m.funcs.take k++m.funcs.drop (k+1) })=(2,m.funcs[k].name)/\dj (ij { m with funcs:=m.funcs.take k++m.funcs.drop (k+1) }) (ij m)=(1,[]))/\
  (m.funcs[k].pub=false->dj (ij m) (ij { m with funcs:=m.funcs.take k++m.funcs.drop (k+1) })=(0,[])/\dj (ij { m with funcs:=m.funcs.take k++m.funcs.drop (k+1) }) (ij m)=(0,[])):=by
 have M:=gk h;have hfs:m.funcs=m.funcs.take k++m.funcs[k]:: m.funcs.drop (k+1):=by rw[<- EU hk,FO]
 have hsub:(m.funcs.take k++m.funcs.drop (k+1)).Sublist m.funcs:=by
  conv=>rhs;rw[hfs]
  exact GX (G8 _) (GJ _ _)
 have hfo:∀f∈m.funcs,jh f=true:=fun f hf=>by
  unfold bL at h;simp only[Em]at h;exact ((im _ _ h.2.1).1 f hf).1
 have hr:bL { m with funcs:=m.funcs.take k++m.funcs.drop (k+1) } = true:=
  sI h _ (F0 hsub.length_le M.flen) (fun f hf=>hfo f (hsub.subset hf)) (M.fnames.sublist (hsub.map _))
 have hmem:∀g∈m.funcs,g=m.funcs[k]\/g∈m.funcs.take k++m.funcs.drop (k+1):=fun g hg=>by
  rw[hfs]at hg;rcases ER.1 hg with h|h
  ·exact .inr (Gs _ h)
  ·rcases EB.1 h with h|h
   ·exact .inl h
   ·exact .inr (Gn _ h)
 have hne:∀g∈m.funcs.take k++m.funcs.drop (k+1),g.name≠m.funcs[k].name:=fun g hg e=>by
  have hn:=M.fnames;rw[hfs,Ho,EN,List.nodup_append]at hn;obtain⟨n1,n2,n3⟩:=hn;rcases ER.1 hg with h|h
  ·exact n3 _ (FK (f:=(·.name)) h) _ E9 e
  ·exact (FQ.1 n2).1 (by rw[<- e];exact FK (f:=(·.name)) h)
 have hfm:=pj h;have hfl:=pj hr;refine⟨hr,fun hp=>?_,fun hp=>?_⟩
 ·have hmm:ew (ij m) (ij { m with funcs:=m.funcs.take k++m.funcs.drop (k+1) })=true:=(iR _ _).2 ⟨by rw[dY h,dY hr],hfm,hfl⟩;have keep1:∀g∈m.funcs.take k++m.funcs.drop (k+1),g.pub=true->fw (ij { m with funcs:=m.funcs.take k++m.funcs.drop (k+1) }) (ee g)=true:=fun g hg gp=>by
   unfold fw
   have:=qn hr (f:=g) hg
   rw[Es gp]at this;have e:(ee g).name=g.name:=rfl;rw[e,this];exact kk (kj (M.fns g (hsub.subset hg)))
  have keep2:∀g∈m.funcs,g.pub=true->fw (ij m) (ee g)=true:=fun g hg gp=>by
   unfold fw
   have:=qn h hg
   rw[Es gp]at this;have e:(ee g).name=g.name:=rfl;rw[e,this];exact kk (kj (M.fns g hg))
  have lost1:gC (ij m) (ij { m with funcs:=m.funcs.take k++m.funcs.drop (k+1) })=some (ee m.funcs[k]):=by
   unfold gC;rw[dY h];refine lR (gW.2 ⟨_,EF hk,hp,rfl⟩) ?_ fun y hy hy'=>?_
   ·have:iA (ij { m with funcs:=m.funcs.take k++m.funcs.drop (k+1) }) m.funcs[k].name=none:=by
     rw[dY hr];unfold iA;rw[GD];intro y hy hy';obtain⟨g,hg,_,rfl⟩:=gW.1 hy;exact hne g hg (Fw.1 hy')
    unfold fw;have e:(ee m.funcs[k]).name=m.funcs[k].name:=rfl;rw[e,this];rfl
   ·obtain⟨g,hg,gp,rfl⟩:=gW.1 hy;rcases hmem g hg with e|e
    ·rw[e]
    ·rw[keep1 g e gp]at hy';cases hy'
  have lost2:gC (ij { m with funcs:=m.funcs.take k++m.funcs.drop (k+1) }) (ij m)=none:=by
   rw[od,dY hr];intro s hs;obtain⟨g,hg,gp,rfl⟩:=gW.1 hs;exact keep2 g (hsub.subset hg) gp
  have hm2:ew (ij { m with funcs:=m.funcs.take k++m.funcs.drop (k+1) }) (ij m)=true:=by rw[qQ];exact hmm
  unfold dj;rw[hmm,hm2,lost1,lost2];exact⟨rfl,rfl⟩
 ·have e:ij { m with funcs:=m.funcs.take k++m.funcs.drop (k+1) } = ij m:=of_same hr h rfl fun x=>by
   rw[mu,mu];constructor
   ·rintro⟨g,hg,gp,rfl⟩;exact⟨g,hsub.subset hg,gp,rfl⟩
   ·rintro⟨g,hg,gp,rfl⟩;rcases hmem g hg with e|e
    ·rw[e,hp]at gp;cases gp
    ·exact⟨g,e,gp,rfl⟩
  rw[e,i6,Es hfm];exact⟨rfl,rfl⟩
def yD{m:Mod}(h:bL m=true){e:Exp}(he:c9 12 e=true):bL (fL m.name (m.funcs.map (cg e)).reverse)=true/\ij (fL m.name (m.funcs.map (cg e)).reverse)=ij m:=by
 have M:=gk h;have hfo:∀f∈m.funcs,jh f=true:=fun f hf=>by
  unfold bL at h;simp only[Em]at h;exact ((im _ _ h.2.1).1 f hf).1
 have hr:bL (fL m.name (m.funcs.map (cg e)).reverse)=true:=by
  refine sJ M.name _ (by simpa using M.flen) (fun f hf=>?_) ?_
  ·obtain⟨g,hg,rfl⟩:=Fg.1 (Hj.1 hf);exact yH he (hfo g hg)
  ·rw[List.map_reverse,FP];exact (List.reverse_perm _).nodup_iff.2 M.fnames
 refine⟨hr,of_same hr h rfl fun x=>?_⟩;show x∈cL (m.funcs.map (cg e)).reverse↔_;rw[po,ot,Hj]
def pi{m:Mod}(hm:m.Lim):(ij m).Lim:=by
 unfold ij;split
 ·rename_i hr;have hl:(cW (cL m.funcs)).length<=30:=by
   rw[(dp _).length_eq];unfold cL;rw[ET];exact F0 (Gp _ _) (gk hr).flen
  refine⟨by show (cW (cL m.funcs)).length<=_;omega,fun s hs=>?_⟩;have hs':s∈cL m.funcs:=(dp _).mem_iff.1 hs;unfold cL at hs';obtain⟨f,hf,rfl⟩:=Fg.1 hs';have hf':=hm.fns f (F5.1 hf).1;refine⟨?_,fun t ht=>?_,hf'.result⟩
  ·show (f.params.map (·.2)).length<=_;rw[ET];exact hf'.params
  ·obtain⟨z,hz,rfl⟩:=Fg.1 ht;exact hf'.pty z hz
 ·exact⟨by decide,fun s hs=>by cases hs⟩
end Go.Av.Ap
namespace Go.Av.Ap
open Go Go.Av
abbrev xA:=bI×bI
def qX(r:xA):AV:=.agg [.str r.1,.str r.2]
def qY(l:List xA):AV:=.sl (l.map qX)
def sE(l:List (List xA)):AV:=.sl (l.map qY)
@[simp] theorem zF(r:xA):ab (qX r)=[.str r.1,.str r.2]:=rfl
@[simp] theorem Cj(r:xA):AV.agg [.str r.1,.str r.2]=qX r:=rfl
@[simp] theorem wS(r:xA):bM 2 (qX r)=true:=rfl
@[simp] theorem Bt(l:List xA):bW 2 (l.map qX)=true:=ck wS l
@[simp] theorem Ak(g:Nat->Nat->Nat->Nat->Bool->AV)(r:xA):cl g (qX r)=qX r:=rfl
@[simp] theorem yb(g:Nat->Nat->Nat->Nat->Bool->AV)(l:List xA):cl g (qY l)=qY l:=by simp[qY,cl,dq g qX (Ak g)]
@[simp] theorem B9(g:Nat->Nat->Nat->Nat->Bool->AV)(l:List (List xA)):cl g (sE l)=sE l:=by simp[sE,cl,dq g qY (yb g)]
section
variable {V:Type}
end
end Go.Av.Ap
namespace Go.Av.Ap
open Go Go.Av
mutual
def AM:Exp->List Exp
 |.mk o n s m ns es=>.mk o n s m ns es:: tq es
def tq:List Exp->List Exp
 |[]=>[]
 |e:: es=>AM e++tq es
end
end Go.Av.Ap
namespace Go.Av
open Go
section
variable {F:Fence} {n:Nat} {P:Program} {w w':World} {ops:Array Oper} {rest:List Oper} {o:Oper} {a:Act} {Q:Exit->Act->World->Prop} {v:Value}
end
end Go.Av
namespace Go.Av.Ap
open Go Go.Av
def BZ{T:TT}{t e:Nat}{ti ei:TI}(ht:T t=some ti)(hk:ti.kind= .slice e)(he:T e=some ei){x:AV}(hx:bM ei.size x=true)(hb:0<ei.bytes)(hs:0<ei.size)(hc:ei.bytes<=140737488355328)(h:Hp):
  appH T t false .hn (.sl [x]) h= .ok (.hs h.length 0 1 ei.size ei.agg) (h++[ab x]):=by
 have:bW ei.size [x]=true:=by simp[bW,hx]
 simp[appH,ht,hk,he,e9,this,hb,hs,hG,hc]
def B1{T:TT}{t e:Nat}{ti ei:TI}(ht:T t=some ti)(hk:ti.kind= .slice e)(he:T e=some ei){x:AV}(hx:bM ei.size x=true)(hb:0<ei.bytes)(hs:0<ei.size){h:Hp}{q n:Nat}{cs:List AV}(h0:h[q]? = some cs)(hok:cs.all aL=true)(hl:cs.length=n*ei.size)(hn:0<n)(hc:(n+1)*ei.bytes<=140737488355328):appH T t false (.hs q 0 n ei.size ei.agg) (.sl [x]) h= .ok (.hs h.length 0 (n+1) ei.size ei.agg) ((h.set q [])++[cs++ab x]):=by
 have h1:bW ei.size [x]=true:=by simp[bW,hx]
 have h2:List.all cs aL=true:=hok;have h3:0<n*ei.size:=Gf hn hs;have h4:cs.take (n*ei.size)=cs:=by rw[<- hl];exact He
 simp only[appH,ht,hk,he,e9,h1,hb,hs,hG,h0,h2,hl,Fu,G6,El,Gc,List.length_singleton,List.isEmpty_cons,Ep,Gh,List.flatMap_nil,GW,h3,h4,En];rw[FF hc];simp
end Go.Av.Ap
