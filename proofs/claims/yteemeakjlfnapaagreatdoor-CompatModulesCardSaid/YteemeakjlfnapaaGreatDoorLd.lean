/- The abstract evaluator of the model and plain laws, part 4: its soundness holds for every program whose table of types is the evaluator's. No further condition. -/
import Derived.Test.YteemeakjlfnapaaGreatDoorLc
import Derived.ChangeSame
import Derived.OpenShut
import Derived.ChangeReads
import Derived.ReadAgain
import Derived.Deep.Slices
import Derived.WideShapes
import Derived.SizedLaws
import Derived.Sort.AssemblyPlain
import Derived.Sort.MapsRangeIn
import Derived.Maps.OwnIn
import Derived.RangeFuncSeq
set_option linter.defProp false
set_option linter.unusedSimpArgs false
set_option linter.unusedVariables false
namespace Go.Av
variable [Dr]
open Go.RowKit Go.WideShapes Go.ChangeShapes
theorem Left.below{S S':ap}{β β':List aZ}{w w':World}{h':Hp}(L:Left (bj [] []) S β w S' β' w' h'):Below w.heap.size w w':=
 ⟨L.gro.os,L.gro.tape,L.gro.out,L.gro.size,fun k hk=>(L.keep k hk (by rintro⟨l,_,_,h1,_⟩;simp at h1)).1⟩
def gD(W:World):ap:=fun b o=>W.cell? ⟨b,o,none⟩
omit [Dr]in
theorem xz(W:World):Wf (gD W) W:=fun _ _ _ h=>h
omit [Dr]in
theorem ua{W:World}(h:GOKw W):mM [] [] W:=⟨h,fun b _ ho=>by obtain⟨l,_,_,h1,_⟩:=ho;simp at h1⟩
theorem uh{P:Program}{p:Pg}(G:GoodPg P p)(hO:cD p){f:FuncId}{args:List AV}{vs:List Value}{W:World}(hg:GOKw W)(hv:aG (gD W) [] args vs)(ht:ai p f args []= .ok (.bool true) []):Calls P f vs.toArray W fun e W'=>e= .returned (.bool true)/\Below W.heap.size W W':=by
 have h:=(gJ G hO f args [] (gD W) [] W vs (by rw[ht];simp) (ua hg) (xz W) ⟨rfl,fun _=>.no,fun l cs hl=>by simp at hl⟩ hv).1;rw[ht]at h;refine h.mono fun e W' hp=>?_;obtain⟨S',β',v,rfl,hv,L,_⟩:=hp;simp only[VR]at hv;subst hv;exact⟨rfl,L.below⟩
section
variable {H:Type} {enc:TypeId×Value->H} {P:Program}
omit [Dr]in
theorem mX{f:Func}{s:ChangeSpec}{apart fresh handsOn again:Bool}{W W':World}{args:Array Value}{v:Value}{ds gs:List (DataW H)}{before pa pv:List MemPlace}(hW:DataW.Whole enc P f.params.toList s.vars apart W args.toList ds gs before)(hres:∀(b:Nat)(sp:Nat->Bool)(hd:Bool),DataW.TrodAll enc P W' b sp hd f.resultTypes.toList (v.resultList f.resultTypes.size) (s.fn H (ds++gs)).results [])(hargs:∀sp:Nat->Bool,(∀p∈before,sp p.block=true)->DataW.TrodAll enc P W' 0 sp true f.params.toList args.toList (s.fn H (ds++gs)).args pa)(hvars:∀sp:Nat->Bool,(∀p∈before,sp p.block=true)->DataW.TrodVars enc P W' sp s.vars (s.fn H (ds++gs)).vars pv)(hps:before=pa++pv)(hb:Below W.heap.size W W')(hok:∀(j:Nat)(t:TypeId)(r:Value),f.resultTypes[j]? = some t->(v.resultList f.resultTypes.size)[j]? = some r->Value.okWide P W' .any 0 t r):
  s.post enc P f apart fresh handsOn again W args v W':=by
 have hlt:∀p∈before,p.block<W.heap.size:=fun p hp=>hW.lt p hp;have hold:∀p∈before,(fun b=>decide (b<W.heap.size)) p.block=true:=fun p hp=>by simpa using hlt p hp
 refine⟨ds,gs,before,[],pa,pv,hW,hres _ _ _,hargs _ hold,hvars _ hold,World.keptBut_mono (fun p hp=>⟨hp,?_⟩) (hb.frame (· ∈before)),fun _=>?_⟩
 ·rw[hps,EF]at hp;exact Or.inr hp
 ·obtain⟨_,_,_,_,_,hz,hn⟩:=hW;refine⟨hok,_,_,([]++pa)++pv,⟨[]++pa,pv,trodAll_append (hargs _ (fun _ _=>rfl)) (hres _ _ _),hvars _ (fun _ _=>rfl),rfl,?_,?_⟩,?_⟩
  ·intro b off hp;have hin:MemPlace.cell b off∈before:=by rw[hps];simpa using hp
   rw[hb.frozen (hlt _ hin)];exact hz b off hin
  ·intro ha
   have:=hn ha
   rw[hps]at this;simpa using this
  ·intro p hp _;rw[hps];simpa using hp
end
end Go.Av
namespace Go.Av.Ap
open Go Go.Av
theorem bz:(a:bG)->aC a a=false
 |[]=>rfl
 |x:: a=>by simp[aC,bz a]
theorem bX:(a b c:bG)->aC a b=true->aC b c=true->aC a c=true
 |_,[],c,h,_=>by cases ‹bG› <;> simp[aC]at h
 |_,_:: _,[],_,h=>by simp[aC]at h
 |[],_:: _,_:: _,_,_=>by simp[aC]
 | x:: a,y:: b,z:: c,h1,h2=>by
  simp only[aC,Fb,Ea,Ej,Fe,UInt8.lt_iff_toNat_lt]at h1 h2 |-;rcases h1 with h1|⟨rfl,h1⟩
  ·rcases h2 with h2|⟨rfl,h2⟩
   ·exact .inl (by omega)
   ·exact .inl h1
  ·rcases h2 with h2|⟨rfl,h2⟩
   ·exact .inl h2
   ·exact .inr ⟨rfl,bX a b c h1 h2⟩
theorem cU:(a b:bG)->aC a b=false->a≠b->aC b a=true
 |[],[],_,h=>absurd rfl h
 |[],_:: _,h,_=>by simp[aC]at h
 |_:: _,[],_,_=>by simp[aC]
 | x:: a,y:: b,h1,h2=>by
  simp only[aC,FT,FH,Fb,Ea,Ej,Fe,UInt8.lt_iff_toNat_lt]at h1 |-;by_cases e:x=y
  ·subst e;refine .inr ⟨rfl,cU a b ?_ fun e=>h2 (by rw[e])⟩;simpa using h1.2
  ·refine .inl ?_;have:x.toNat≠y.toNat:=fun e'=>e (UInt8.toNat_inj.1 e');omega
def rc(p f:bG):db p f=true↔aC p f=true:=by
 unfold db;rw[EU,FT];constructor
 ·rintro⟨h1,h2⟩;exact cU f p h1 (E4.1 h2)
 ·intro h;refine⟨?_,?_⟩
  ·cases hc:aC f p with
   |false=>rfl
   |true=>exact absurd (bX _ _ _ h hc) (by simp[bz])
  ·rw[E4];rintro rfl;rw[bz]at h;cases h
theorem jO{α:Type}{Q:α->α->Bool}{nm:α->bG}(hQ:∀x y,Q x y=true->aC (nm x) (nm y)=true):(l:List α)->fJ Q l=true->l.Pairwise fun x y=>aC (nm x) (nm y)=true
 |[],_=>.nil
 |[x],_=>by simp
 |x:: y:: r,h=>by
  simp only[fJ,Ea]at h;have ih:=jO hQ (y:: r) h.2;refine .cons (fun z hz=>?_) ih;have h1:=hQ _ _ h.1;rcases Eo.1 hz with rfl|hz
  ·exact h1
  ·exact bX _ _ _ h1 ((Fj.1 ih).1 z hz)
theorem nD{α:Type}{nm:α->bG}:{l:List α} ->(l.Pairwise fun x y=>aC (nm x) (nm y)=true)->{x:α} ->x∈l->l.find? (fun z=>nm z== nm x)=some x
 | y:: l,h,x,hx=>by
  rcases Eo.1 hx with rfl|hx
  ·simp
  ·have h1:=(Fj.1 h).1 x hx;have:(nm y== nm x)=false:=by
    rw[E4];intro e;rw[e,bz]at h1;cases h1
   simp only[List.find?_cons,this];exact nD (Fj.1 h).2 hx
theorem lU{α:Type}{p:α->Bool}:{l:List α} ->(∀z∈l,p z=false)->cb p l=none
 |[],_=>rfl
 |z:: l,h=>by simp[cb,lU (l:=l) fun y hy=>h y (by simp[hy]),h z (by simp)]
theorem nO{α:Type}{nm:α->bG}:{l:List α} ->(l.Pairwise fun x y=>aC (nm x) (nm y)=true)->{x:α} ->x∈l->cb (fun z=>nm z== nm x) l=some x
 | y:: l,h,x,hx=>by
  rcases Eo.1 hx with rfl|hx
  ·have:cb (fun z=>nm z== nm x) l=none:=lU fun z hz=>by
    rw[E4];intro e;have h1:=(Fj.1 h).1 z hz;rw[e,bz]at h1;cases h1
   simp[cb,this]
  ·simp[cb,nO (Fj.1 h).2 hx]
theorem kq:(d:Nat)->(t:Ty)->cw d t=true->iF t t=true
 |0,_,h=>by cases h
 |d+1,t,h=>by
  rw[eQ]at h;simp only[Ea,Eg]at h;have hp:=jO (nm:=fun f:eC=>f.1) (fun x y h=>(rc _ _).1 h) _ h.2.2;rw[ni];simp only[FW,Fi,Eg];intro f hf;rw[nO (nm:=fun f:eC=>f.1) hp hf];exact kq d f.2 (h.2.1 f hf).2
def om{t:Ty}(h:bM t=true):po t t=true:=by
 unfold po;rw[h,kq 4 t h];rfl
theorem m9{α:Type}{F:α->α->Bool}:{l:List α} ->(∀x∈l,F x x=true)->mO F l l=true
 |[],_=>rfl
 |x:: l,h=>by simp[mO,h x (by simp),m9 (l:=l) fun y hy=>h y (by simp[hy])]
theorem p7(a b:Int):(dn a b== 0)=true↔BitVec.ofInt 64 a &&& ~~~ BitVec.ofInt 64 b=0#64:=by
 unfold dn;generalize BitVec.ofInt 64 a &&& ~~~ BitVec.ofInt 64 b=v;have hv:=v.isLt;rw[Fe];constructor
 ·intro h;apply BitVec.eq_of_toNat_eq;show v.toNat=0;have e:IntKind.i64.wrap (v.toNat:Int)=if decide ((v.toNat:Int) % 18446744073709551616 >= 9223372036854775808)=true then(v.toNat:Int) % 18446744073709551616-18446744073709551616 else(v.toNat:Int) % 18446744073709551616:=rfl;rw[e]at h;split at h<;>omega
 ·intro h;rw[h];rfl
def oN(a:Int):(dn a a== 0)=true:=(p7 a a).2 (by
 apply BitVec.eq_of_getLsbD_eq;intro i hi;simp only[BitVec.getLsbD_and,BitVec.getLsbD_not,hi,Ff,Fi,BitVec.getLsbD_zero,Bool.and_not_self])
def ke{s:Sig}(h:dI s=true):sL s s=true:=by
 unfold dI at h;simp only[Ea,Eg]at h;unfold sL;rw[m9 fun t ht=>om (h.2 t ht),om h.1.2,oN];rfl
def nQ(old now:Face):gz old now=none↔∀f∈old.funcs,fu now f=true:=by
 unfold gz;simp
def um{a:Face}(h:cu a=true):gz a a=none:=by
 rw[nQ];intro f hf;unfold cu at h;simp only[Ea,Eg]at h;have hp:=jO (nm:=fun f:Sig=>f.name) (fun x y h=>h) _ h.2.2;unfold fu iy;rw[nD (nm:=fun f:Sig=>f.name) hp hf];exact ke (h.2.1 f hf)
def iP(a b:Face):eh a b=true↔a.module=b.module/\cu a=true/\cu b=true:=by
 unfold eh;simp only[Ea,Fe,and_assoc]
def qE(a b:Face):eh a b=eh b a:=by
 rw[FP,iP,iP];exact⟨fun⟨x,y,z⟩=>⟨x.symm,z,y⟩,fun⟨x,y,z⟩=>⟨x.symm,z,y⟩⟩
def iX(a:Face):df a a=(if cu a=true then 0 else 2,[]):=by
 unfold df;cases h:cu a with
 |false=>simp[eh,h]
 |true=>simp[eh,h,um h]
end Go.Av.Ap
namespace Go.Av
open Go.RowKit
section
variable {H:Type} {enc:TypeId×Value->H} {P:Program} {w w':World}
theorem iA{base:Nat}{spare:Nat->Bool}{held:Bool}:∀ {ts:List TypeId} {vs:List Value} {ds:List (DataW H)} {ps:List MemPlace},DataW.TrodAll enc P w base spare held ts vs ds ps->(∀p∈ps,w.sameAt w' p)->DataW.TrodAll enc P w' base spare held ts vs ds ps
 |[],[],[],_,h,_=>h
 |_:: _,_:: _,_:: _,_,⟨p,q,⟨n,h1⟩,h2,e⟩,hs=>⟨p,q,⟨n,DataW.trod_carry n _ _ _ h1 (fun x hx=>hs x (by rw[e];exact Gf _ hx))⟩,iA h2 (fun x hx=>hs x (by rw[e];exact Gb _ hx)),e⟩
theorem pi(hb:Below w.heap.size w w'){p:MemPlace}(hp:p.block<w.heap.size):w.sameAt w' p:=by
 cases p with
 |cell b off=>
  have:=hb.block b hp
  show w'.cell? ⟨b,off,none⟩=w.cell? ⟨b,off,none⟩;simp only[World.cell?,this]
 |map b=>exact hb.block b hp
theorem rn{T:TypeId->Prop}(K:Kids P T)(hz:∀t e,T t->P.underlying t=some (.slice e)->0<P.cellsOf e){ts:List TypeId}{vs:List Value}{ds:List (DataW H)}{ps:List MemPlace}(hT:∀t∈ts,T t)(h:DataW.TrodAll enc P w 0 (fun _=>true) true ts vs ds ps)(hlt:∀p∈ps,p.block<w.heap.size)(hb:Below w.heap.size w w')(sp:Nat->Bool)(hsp:∀p∈ps,sp p.block=true):DataW.TrodAll enc P w' 0 sp true ts vs ds ps:=
 (iA h fun p hp=>pi hb (hlt p hp)).respare K hz hT hsp
end
theorem s4{α:Type}(Q:Nat->α->Prop):∀n,(∀i,i<n->∃x,Q i x)->∃l:List α,l.length=n/\∀i x,l[i]? = some x->Q i x
 |0,_=>⟨[],rfl,fun i x h=>by simp at h⟩
 | n+1,h=>by
  obtain⟨l,h1,h2⟩:=s4 Q n fun i hi=>h i (by omega);obtain⟨y,hy⟩:=h n (by omega);refine⟨l++[y],by simp[h1],fun i x hx=>?_⟩;by_cases hi:i<n
  ·rw[El (by omega)]at hx;exact h2 i x hx
  ·rw[Ev (by omega)]at hx;have hin:i-l.length=0:=by
    rcases EO (i-l.length)with h|h
    ·exact h
    ·rw[Eh (by simp;omega)]at hx;cases hx
   rw[hin]at hx;simp only[EC,D8]at hx;subst hx;obtain rfl:i=n:=by omega
   exact hy
end Go.Av
namespace Go.Av
open Go.RowKit Go.WideShapes Go.ChangeShapes
section
variable {H:Type} (enc:TypeId×Value->H) (P:Program) (W:World)
def Rd{α:Type}(N:Nat)(t:TypeId)(cells:α->List AV)(Ok:α->Prop):Prop:=∀(base:Nat)(held:Bool)(n:Nat),n<N->∀(cs:List Value)(x:DataW H×List MemPlace),DataW.trod enc P W base (fun _=>true) held n t cs=some x->(∀k∈x.1.weights P t,k<=reachBytes)->∃a:α,aG (gD W) [] (cells a) cs/\Ok a
def xy{α:Type}(N:Nat)(tot:Nat)(o:Nat)(fs:List Field)(cells:α->List AV)(Ok:α->Prop):Prop:=∀(base:Nat)(held:Bool)(n:Nat),n<N->∀(cs:List Value)(xs:List (DataW H×List MemPlace)),cs.length=tot->
 xs.length=fs.length->(∀(i:Nat)(f:Field),fs[i]? = some f->DataW.trod enc P W base (fun _=>true) held n f.type ((cs.drop f.offset).take (P.cellsOf f.type))=xs[i]?)->(∀k∈DataW.weightsEach P (fs.map (·.type)) (xs.map (·.1)),k<=reachBytes)->∃a:α,aG (gD W) [] (cells a) (cs.drop o)/\Ok a
variable {enc P W} {α β:Type} {N:Nat} {t:TypeId}
theorem Rd.zero{cells:α->List AV}{Ok:α->Prop}:Rd enc P W 0 t cells Ok:=fun _ _ n hn=>absurd hn (by omega)
theorem Rd.le{cells:α->List AV}{Ok:α->Prop}(h:Rd enc P W N t cells Ok){M:Nat}(hm:M<=N):Rd enc P W M t cells Ok:=fun b hd n hn=>h b hd n (by omega)
theorem Rd.map{cells:α->List AV}{Ok:α->Prop}(h:Rd enc P W N t cells Ok)(g:α->β){cells':β->List AV}{Ok':β->Prop}(hc:∀a,cells' (g a)=cells a)(ho:∀a,Ok a->Ok' (g a)):Rd enc P W N t cells' Ok':=by
 intro b hd n hn cs x hx hw;obtain⟨a,h1,h2⟩:=h b hd n hn cs x hx hw;exact⟨g a,by rw[hc];exact h1,ho a h2⟩
theorem tf(ht:P.underlying t=some .bool):Rd enc P W N t (fun b:Bool=>[.bool b]) (fun _=>True):=by
 intro b hd n hn cs x hx hw;obtain⟨b,rfl,_⟩:=DataW.trod_bool ht hx;exact⟨b,by simp[aG,VR],trivial⟩
theorem mu{k:IntKind}(ht:P.underlying t=some (.int k)):Rd enc P W N t (fun n:Int=>[.int k n]) (fun n=>(Lit.int k n).wf=true):=by
 intro b hd n hn cs x hx hw;obtain⟨b,rfl,_,hwf⟩:=DataW.trod_int ht hx;exact⟨b,by simp[aG,VR],hwf⟩
theorem kc(ht:P.underlying t=some .string):Rd enc P W N t (fun s:List UInt8=>[.str s]) (fun s=>s.length<=reachBytes):=by
 intro b hd n hn cs x hx hw;obtain⟨s,rfl,rfl,_⟩:=DataW.trod_string ht hx;exact⟨s.data.toList,by simp[aG,VR],hw _ (by simp[DataW.weights])⟩
def zj(cells:α->List AV)(ev:α->AV)(sz:Nat):Prop:=∀(a:α)(S:ap)(β:List aZ)(vs:List Value),aG S β (cells a) vs->vs.length=sz->∃v,VR S β (ev a) v/\v.cells.toList=vs
theorem jR{cells:α->List AV}{ev:α->AV}{sz:Nat}(he:∀a,ev a= .agg (cells a)):zj cells ev sz:=fun a S β vs h hl=>⟨.agg vs.toArray,by rw[he];simp only[VR];exact⟨vs,rfl,h⟩,by simp[Value.cells]⟩
theorem vV{ev:α->AV}(ho:∀a,aL (ev a)=true):zj (fun a=>[ev a]) ev 1:=fun a S β vs h hl=>by
 simp only[aG]at h;obtain⟨v,_,rfl,h,rfl⟩:=h;exact⟨v,h,by rw[(ff (ho a) h).1]⟩
theorem g7{e:TypeId}:∀ {l:List (DataW H)} {d:DataW H},d∈l->∀k∈d.weights P e,k∈DataW.weightsAll P e l
 |x:: l,d,hd,k,hk=>by
  simp only[DataW.weightsAll,EF];rcases Eo.1 hd with rfl|hd
  ·exact .inl hk
  ·exact .inr (g7 hd k hk)
theorem jy{e:TypeId}{cells:α->List AV}{Ok:α->Prop}(h:Rd enc P W N e cells Ok)(ht:P.underlying t=some (.slice e)){sz by_:Nat}(hsz:P.cellsOf e=sz)(h0:0<sz)(hby:P.bytesOf e=by_){ev:α->AV}(hev:zj cells ev sz):
  Rd enc P W N t (fun l:List α=>[.sl (l.map ev)]) (fun l=>l.length*by_<=reachBytes/\∀a∈l,Ok a):=by
 intro base hd n hn cs x hx hw;rcases DataW.trod_slice ht hx with⟨rfl,rfl⟩|⟨a,len,cap,elems,rest,m,rfl,rfl,rfl,hb,hle,hm,hlen,hel,hsp,_⟩
 ·exact⟨[],by simp only[aG,List.map_nil,VR];exact⟨_,_,rfl,⟨none,0,rfl,Eb _,fun _=>rfl,fun q hq=>by cases hq⟩,rfl⟩,by simp,fun a ha=>by cases ha⟩
 obtain⟨hrl,hre⟩:=hsp rfl;rw[hsz]at hel hre;simp only[DataW.weights,ht,Eo,EF,hby]at hw;have hspot:0<cap->a.spot=none:=by
  intro hc;have:∃y,(W.cells? base (a.add 0) sz).bind (DataW.trod enc P W base (fun _=>true) hd m e)=some y:=by
   by_cases h1:0<len
   ·have:=hel 0 h1
    rw[Ek (by omega)]at this;exact⟨_,by simpa using this⟩
   ·have:=hre 0 (by omega)
    rw[Ek (by omega)]at this;obtain rfl:len=0:=by omega
    exact⟨_,by simpa using this⟩
  obtain⟨y,hy⟩:=this;obtain⟨cs,hcs,_⟩:=Ha.1 hy;obtain⟨_,hl,hc⟩:=World.cells?_some hcs;have h2:=hc 0 h0;rw[Ek (by omega)]at h2;have h3:=World.cell?_spot h2;have e:(a.add 0).add 0=a:=by unfold Addr.add;simp
  rwa [e]at h3
 have hx:∀i,i<len->∃y:α,(∃v,VR (gD W) [] (ev y) v/\v.cells.size=sz/\dR (gD W) a.block (a.off+i*sz) v.cells.toList)/\Ok y:=by
  intro i hi;have h1:=hel i hi;rw[Ek (by omega)]at h1;obtain⟨cs,hcs,htr⟩:=Ha.1 h1;obtain⟨y,hy,hok⟩:=h base hd m (by omega) cs _ htr (fun k hk=>hw k (.inr (.inl (g7 (E3.2 ⟨_,Es _,rfl⟩) k hk))));obtain⟨_,hl,hc⟩:=World.cells?_some hcs;obtain⟨v,hv,hvc⟩:=hev y _ _ cs hy hl;refine⟨y,⟨v,hv,by rw[<- EX,hvc,hl],fun j u hj=>?_⟩,hok⟩;rw[hvc]at hj;have hjl:j<sz:=by
   rcases Ep j cs.length with h|h
   ·omega
   ·rw[Eh h]at hj;cases hj
  have h2:=hc j hjl;rw[hj]at h2;unfold gD;have hs:=hspot (by omega);have e:(a.add (i*sz)).add j=⟨a.block,a.off+i*sz+j,none⟩:=by
   obtain⟨b,o,s⟩:=a;simp only at hs;subst hs;rw[add_plain,add_plain]
  rw[<- e];exact h2
 obtain⟨l,hl1,hl2⟩:=s4 (fun i y=>(∃v,VR (gD W) [] (ev y) v/\v.cells.size=sz/\dR (gD W) a.block (a.off+i*sz) v.cells.toList)/\Ok y) len hx;refine⟨l,?_,?_,fun y hy=>?_⟩
 ·simp only[aG,VR,EH];refine⟨_,_,rfl,⟨some a,cap,by rw[hl1],by omega,(fun e=>by cases e),fun q hq=>?_⟩,rfl⟩;cases hq;refine⟨hspot,sz,.of_get fun i e he=>?_⟩;rw[E6,E7]at he;obtain⟨y,hy,rfl⟩:=he;exact (hl2 i y hy).1
 ·have:=hw _ (.inl rfl)
  simp only[EH]at this;have h3:=Em by_ (show l.length<=elems.length+rest.length by omega);omega
 ·obtain⟨i,hi,e⟩:=List.getElem_of_mem hy;exact (hl2 i y (by rw[Ek hi,e])).2
theorem fT{tot:Nat}:xy enc P W N tot tot [] (fun _:Unit=>[]) (fun _=>True):=fun base hd n hn cs xs hl _ _ _=>⟨(),by simp[aG,<- hl],trivial⟩
theorem aQ{tot o k:Nat}{f:Field}{fs:List Field}{c1:α->List AV}{Ok1:α->Prop}{c2:β->List AV}{Ok2:β->Prop}(h1:Rd enc P W N f.type c1 Ok1)(ho:f.offset=o)(hk:P.cellsOf f.type=k)(h2:xy enc P W N tot (o+k) fs c2 Ok2):
  xy enc P W N tot o (f:: fs) (fun x:α×β=>c1 x.1++c2 x.2) (fun x=>Ok1 x.1/\Ok2 x.2):=by
 intro base hd n hn cs xs hl hx hf hw
 match xs,hx with
 |x:: xs,hx=>
  have hf0:=hf 0 f rfl;rw[ho,hk]at hf0;simp only[EA,DataW.weightsEach,EF]at hw;obtain⟨a,ha,oa⟩:=h1 base hd n hn _ x hf0 fun k hk=>hw k (.inl hk);obtain⟨b,hb,ob⟩:=h2 base hd n hn cs xs hl (by simpa using hx) (fun i g hg=>by simpa using hf (i+1) g (by simpa using hg)) fun k hk=>hw k (.inr hk);refine⟨(a,b),?_,oa,ob⟩
  have:=ha.append hb
  rwa [<- GM,FC]at this
theorem fg{fs:Array Field}{tot:Nat}{cells:α->List AV}{Ok:α->Prop}(ht:P.underlying t=some (.struct fs))(hc:P.cellsOf t=tot)(h:xy enc P W N tot 0 fs.toList cells Ok):Rd enc P W (N+1) t cells Ok:=by
 intro base hd n hn cs x hx hw;obtain⟨xs,m,rfl,rfl,hl,hxs,hf⟩:=DataW.trod_struct ht hx;simp only[DataW.weights,ht]at hw;obtain⟨a,h1,h2⟩:=h base hd m (by omega) cs xs (by rw[hl,hc]) (by simpa using hxs) (fun i f hi=>hf i f (by simpa using hi)) hw;exact⟨a,by simpa using h1,h2⟩
theorem wS{cells:α->List AV}{Ok:α->Prop}(h:∀N,Rd enc P W N t cells Ok){base:Nat}{held:Bool}{v:Value}{d:DataW H}{p:List MemPlace}(hd:DataW.Trod enc P W base (fun _=>true) held t v d p)(hw:∀k∈d.weights P t,k<=reachBytes):
  ∃a:α,aG (gD W) [] (cells a) v.cells.toList/\Ok a:=by
 obtain⟨n,hn⟩:=hd;exact h (n+1) base held n (by omega) _ _ hn hw
theorem yC{f:α->AV}{Ok:α->Prop}(h:∀N,Rd enc P W N t (fun a=>[f a]) Ok){base:Nat}{held:Bool}{v:Value}{d:DataW H}{p:List MemPlace}(hv:v.cells.toList=[v])(hd:DataW.Trod enc P W base (fun _=>true) held t v d p)(hw:∀k∈d.weights P t,k<=reachBytes):
  ∃a:α,VR (gD W) [] (f a) v/\Ok a:=by
 obtain⟨a,h1,h2⟩:=wS h hd hw;rw[hv]at h1;simp only[aG]at h1;obtain⟨y,ys,e,h1,rfl⟩:=h1;cases e;exact⟨a,h1,h2⟩
theorem xD{k:IntKind}{r:Reach}{b0:Nat}{f:α->AV}{Ok:α->Prop}(h:∀N,Rd enc P W N t (fun a=>[f a]) Ok)(ht:P.underlying t=some (.int k)){base:Nat}{held:Bool}{v:Value}{d:DataW H}{p:List MemPlace}(hok:Value.okWide P W r b0 t v)(hd:DataW.Trod enc P W base (fun _=>true) held t v d p)(hw:∀k∈d.weights P t,k<=reachBytes):∃a:α,VR (gD W) [] (f a) v/\Ok a:=by
 obtain⟨a,rfl⟩:=okWide_int ht hok;exact yC h rfl hd hw
theorem rm{fs:Array Field}{r:Reach}{b0:Nat}{f:α->AV}{Ok:α->Prop}{cells:α->List AV}(h:∀N,Rd enc P W N t cells Ok)(hf:∀a,f a= .agg (cells a))(ht:P.underlying t=some (.struct fs)){base:Nat}{held:Bool}{v:Value}{d:DataW H}{p:List MemPlace}(hok:Value.okWide P W r b0 t v)(hd:DataW.Trod enc P W base (fun _=>true) held t v d p)(hw:∀k∈d.weights P t,k<=reachBytes):∃a:α,VR (gD W) [] (f a) v/\Ok a:=by
 obtain⟨cs,rfl,_⟩:=okWide_struct ht hok;obtain⟨a,h1,h2⟩:=wS h hd hw;refine⟨a,?_,h2⟩;rw[hf];simp only[VR];exact⟨cs.toList,by simp,h1⟩
theorem lB{ts:List TypeId}{ds:List (DataW H)}(h:(DataW.weightsEach P ts ds).all (· <=reachBytes)=true){j:Nat}{u:TypeId}{d:DataW H}(ht:ts[j]? = some u)(hd:ds[j]? = some d):∀k∈d.weights P u,k<=reachBytes:=fun k hk=>by
 have:=Eg.1 h _ (DataW.weights_mem_each ht hd k hk)
 simpa using this
end
end Go.Av
namespace Go.Av.Ap
open Go Go.Av
def eU(e:Exp):Exp×Int:=
 if e.op=0\/e.op=1 then(.mk e.op e.n [] [] [] e.args,0)
 else if e.op=2\/e.op=17 then(.mk e.op 0 e.s [] [] e.args,0)
 else if e.op=18\/e.op=14 then(.mk e.op 0 e.s [] [] e.args,1)
 else if e.op=16 then(.mk e.op e.n [] [] [] e.args,1)
 else if e.op=10 then(.mk e.op 0 [] [] [] e.args,1)
 else if e.op=12 then(.mk e.op 0 e.s [] [] e.args,2)
 else if e.op=11 then(.mk e.op 0 [] [] [] e.args,3)
 else if e.op=13 then(.mk e.op 0 [] [] e.names e.args,e.names.length)
 else if e.op=15 then(.mk e.op 0 e.s e.m [] e.args,-1)
 else(.mk e.op 0 [] [] [] e.args,2)
def wJ(l:List bG):Bool:=(l.all bv&&fJ db l)&&decide (l.length<=8)
def eL(e:Exp):Bool:=
 if e.op=0 then decide (0<=e.n)&&decide (e.n<=1099511627776)
 else if e.op=1 then e.n== 0||e.n== 1
 else if e.op=16 then((e.n== 1||e.n== 2)||e.n== 4)||e.n== 8
 else if e.op=2\/e.op=17\/e.op=18\/e.op=14\/e.op=12 then bv e.s
 else if e.op=15 then bv e.s&&(e.m== []||bv e.m)&&decide (e.args.length<=6)
 else if e.op=13 then wJ e.names
 else true
def sD(e:Exp):Bool:=
 decide (0<=e.op)&&decide (e.op<19)&&(decide ((eU e).2<0)||((eU e).2== (e.args.length:Int)))&&((eU e).1.n== e.n)&&((eU e).1.s== e.s)&&((eU e).1.m== e.m)&&(((eU e).1.names.length:Int)== (e.names.length:Int))&&eL e
def cW:Nat->Exp->Bool
 |0,_=>false
 |d+1,e=>sD e&&e.args.all (cW d)
theorem qO(d:Nat)(e:Exp):cW (d+1) e=(sD e&&e.args.all (cW d)):=rfl
mutual
def DR:Ty->Ty->Option Ty
 |.mk k fs,b=>if k=b.kind then some (.mk k (CG fs b.fields))else none
def CG:List (bG×Ty)->List eC->List eC
 |[],_=>[]
 |f:: fs,l=>(match DO f l with|some x=>[x]|none=>[])++CG fs l
def DO:bG×Ty->List eC->Option eC
 |(n,t),l=>match cb (fun z=>z.1== n) l with
  |some z=>(match DR t z.2 with|some u=>some (n,u)|none=>none)
  |none=>none
end
abbrev tj(e:Exp):Bool:=cW 12 e
def o6:List bG->List eC->Bool
 |_,[]=>true
 |seen,f:: l=>!(seen.contains f.1)&&bv f.1&&bM f.2&&o6 (seen++[f.1]) l
def dC(l:List eC)(most:Int):Bool:=o6 [] l&&decide ((l.length:Int)<=most)
def je(f:Fun):Bool:=bv f.name&&dC f.params 6&&bM f.result&&tj f.body&&(dn f.effects 15== 0)
def iz:List bG->List Fun->Bool
 |_,[]=>true
 |seen,f:: l=>!(seen.contains f.name)&&je f&&iz (seen++[f.name]) l
def ut:List bG->List bG->Bool
 |_,[]=>true
 |seen,s:: l=>!(seen.contains s)&&bv s&&ut (seen++[s]) l
def kN(m:Mod):Bool:=bv m.name&&decide (m.uses.length<=12)&&decide (m.funcs.length<=30)&&dC m.vars 8&&(m.init.all tj&&((m.init.length:Int)== m.vars.length))&&(m.moves||decide (m.old.length=0)) &&
 (dC m.old 8&&(m.forward.all tj&&((m.forward.length:Int)== (if m.moves=true then(m.vars.length:Int)else 0)))&&(m.back.all tj&&((m.back.length:Int)== m.old.length)))
def bJ(m:Mod):Bool:=ut [] m.uses&&(iz [] m.funcs&&kN m)
theorem jt:(l:List eC)->(seen:List bG)->o6 seen l=true->(∀f∈l,bv f.1=true/\bM f.2=true/\f.1 ∉ seen)/\(l.map (·.1)).Nodup
 |[],seen,_=>⟨fun f h=>(by cases h),List.nodup_nil⟩
 | f:: l,seen,h=>by
  simp only[o6,Ea,EU]at h;obtain⟨⟨⟨h1,h2⟩,h3⟩,h4⟩:=h;obtain⟨i1,i2⟩:=jt l _ h4;have h1':f.1 ∉ seen:=fun hm=>by rw[GD.2 hm]at h1;cases h1
  refine⟨fun g hg=>?_,?_⟩
  ·rcases Eo.1 hg with rfl|hg
   ·exact⟨h2,h3,h1'⟩
   ·obtain⟨j1,j2,j3⟩:=i1 g hg;exact⟨j1,j2,fun hm=>j3 (Gf _ hm)⟩
  ·rw[EA,FE];refine⟨fun hm=>?_,i2⟩;obtain⟨g,hg,e⟩:=E3.1 hm;exact (i1 g hg).2.2 (Gb _ (by rw[e];simp))
theorem ij:(l:List Fun)->(seen:List bG)->iz seen l=true->(∀f∈l,je f=true/\f.name ∉ seen)/\(l.map (·.name)).Nodup
 |[],seen,_=>⟨fun f h=>(by cases h),List.nodup_nil⟩
 | f:: l,seen,h=>by
  simp only[iz,Ea,EU]at h;obtain⟨⟨h1,h2⟩,h4⟩:=h;obtain⟨i1,i2⟩:=ij l _ h4;have h1':f.name ∉ seen:=fun hm=>by rw[GD.2 hm]at h1;cases h1
  refine⟨fun g hg=>?_,?_⟩
  ·rcases Eo.1 hg with rfl|hg
   ·exact⟨h2,h1'⟩
   ·obtain⟨j1,j3⟩:=i1 g hg;exact⟨j1,fun hm=>j3 (Gf _ hm)⟩
  ·rw[EA,FE];refine⟨fun hm=>?_,i2⟩;obtain⟨g,hg,e⟩:=E3.1 hm;exact (i1 g hg).2 (Gb _ (by rw[e];simp))
structure FunOk (f:Fun):Prop where
 name:bv f.name=true
 plen:f.params.length<=6
 pars:∀z∈f.params,bM z.2=true
 pnames:(f.params.map (·.1)).Nodup
 res:bM f.result=true
 body:cW 12 f.body=true
 eff:dn f.effects 15=0
def Al{f:Fun}(h:je f=true):FunOk f:=by
 unfold je dC at h;simp only[Ea,Ej,Fe]at h;obtain⟨⟨⟨⟨h1,h2,h3⟩,h4⟩,h5⟩,h6⟩:=h;obtain⟨i1,i2⟩:=jt _ _ h2;exact⟨h1,by omega,fun z hz=>(i1 z hz).2.1,i2,h4,h5,h6⟩
structure ModOk (m:Mod):Prop where
 name:bv m.name=true
 ulen:m.uses.length<=12
 flen:m.funcs.length<=30
 fns:∀f∈m.funcs,FunOk f
 fnames:(m.funcs.map (·.name)).Nodup
 vlen:m.vars.length<=8
 vars:∀z∈m.vars,bM z.2=true
 vnames:(m.vars.map (·.1)).Nodup
 ilen:m.init.length=m.vars.length
 init:∀e∈m.init,cW 12 e=true
 olen:m.old.length<=8
 old:∀z∈m.old,bM z.2=true
 wlen:m.moves=true->m.forward.length=m.vars.length
 forw:∀e∈m.forward,cW 12 e=true
 blen:m.back.length=m.old.length
 back:∀e∈m.back,cW 12 e=true
def gb{m:Mod}(h:bJ m=true):ModOk m:=by
 unfold bJ kN dC at h;simp only[Ea,Ej,Fe,Eg,Fb]at h;obtain⟨h1,h2,⟨⟨⟨⟨⟨h3,h4⟩,h5⟩,h6,h7⟩,h8,h9⟩,h10⟩,⟨⟨h11,h12⟩,h13,h14⟩,h15,h16⟩:=h;obtain⟨f1,f2⟩:=ij _ _ h2;obtain⟨v1,v2⟩:=jt _ _ h6;obtain⟨o1,_⟩:=jt _ _ h11;exact⟨h3,h4,h5,fun f hf=>Al (f1 f hf).1,f2,by omega,fun z hz=>(v1 z hz).2.1,v2,by omega,h8,by omega,fun z hz=>(o1 z hz).2.1,fun hm=>by rw[Ef hm]at h14;omega,h13,by omega,h15⟩
end Go.Av.Ap
namespace Go.Av.Ap
open Go Go.Av
open Go.RowKit Go.Sort Go.Proofs in
def ze(keys:List bG)(n i j:Nat):ltOf (xw keys n) i j=aC keys[i % n]! keys[j % n]!:=by
 unfold ltOf xw rJ;cases h1:aC keys[i % n]! keys[j % n]! with
 |true=>simp
 |false=>cases h2:aC keys[j % n]! keys[i % n]! <;> simp
open Go.RowKit Go.Sort Go.Proofs in
def CE(keys:List bG)(n:Nat):SWO (ltOf (xw keys n)):=by
 refine⟨fun x=>?_,fun x y z=>?_,fun x y z=>?_⟩
 ·rw[ze,bz]
 ·rw[ze,ze,ze];exact bX _ _ _
 ·rw[ze,ze,ze];intro h1 h2;cases h3:aC keys[x % n]! keys[z % n]! with
  |false=>rfl
  | true=>
   exfalso;by_cases e:keys[x % n]! = keys[y % n]!
   ·rw[e,h2]at h3;cases h3
   ·have:=bX _ _ _ (cU _ _ h1 e) h3
    rw[this]at h2;cases h2
open Go.RowKit Go.Sort Go.Proofs in
def mo(keys:List bG):(dP keys).Perm (List.range keys.length)/\(dP keys).Pairwise fun i j=>aC keys[j % keys.length]! keys[i % keys.length]! = false:=by
 have h:=pdq_sorts (ltOf (xw keys keys.length)) (CE keys keys.length) (Array.range keys.length) 0 (Array.range keys.length).size (Lib.bitLen (Array.range keys.length).size) true true (EG _) (Eb _) (Or.inl rfl);obtain⟨⟨hs,_,hp⟩,ho⟩:=h;unfold dP;generalize pdq (ltOf (xw keys keys.length)) (Array.range keys.length) 0 (Array.range keys.length).size (Lib.bitLen (Array.range keys.length).size) true true=d at hs hp ho;refine⟨?_,?_⟩
 ·rw[<- hs,Array.extract_size,hs,Array.extract_size]at hp;simpa using hp
 ·rw[List.pairwise_iff_getElem];intro i j hi hj hij;simp only[EX]at hi hj
  have:=ho i j (EG _) hij (by omega)
  rw[Eu d i hi,Eu d j hj,ze]at this;simp only[Array.getElem_toList];exact this
def cR(l:List Sig):List Sig:=(dP (l.map (·.name))).map fun i=>l[i % l.length]!
def dl(l:List Sig):(cR l).Perm l:=by
 have h:=(mo (l.map (·.name))).1;rw[EH]at h;have h2:=h.map fun i=>l[i % l.length]!;refine h2.trans ?_;have e:(List.range l.length).map (fun i=>l[i % l.length]!)=l:=by
  apply Gy
  ·simp
  ·intro i h1 h2;simp only[Gz,GT];rw[Gd h2,Eu l i h2]
 rw[e]
def pk(l:List Sig):(cR l).Pairwise fun a b=>aC b.name a.name=false:=by
 have h:=(mo (l.map (·.name))).2;unfold cR;rw[Gs];rw[EH]at h;refine h.imp fun{i j} h=>?_;have e:∀i:Nat,(l.map (·.name))[i % l.length]! = (l[i % l.length]!).name:=fun i=>by
  by_cases hl:i % l.length<l.length
  ·rw[Eu (l.map (·.name)) (i % l.length) (by rw[EH];exact hl),Eu l (i % l.length) hl,Gz]
  ·have h0:l=[]:=by
    rcases EO l.length with h|h
    ·exact Ew h
    ·exact absurd (Hh i h) hl
   subst h0;rfl
 rw[e,e]at h;exact h
def d7(f:Fun):Sig:=⟨f.name,f.params.map (·.2),f.result,f.effects⟩
def cG(l:List Fun):List Sig:=(l.filter (·.pub)).map d7
end Go.Av.Ap
namespace Go.Av.Ap
open Go Go.Av
def lF:Face:=⟨[],[]⟩
def ic(m:Mod):Face:=if bJ m=true then⟨m.name,cR (cG m.funcs)⟩else lF
theorem ml:(l:List Fun)->(seen:List bG)->(∀f∈l,je f=true/\f.name ∉ seen)->(l.map (·.name)).Nodup->iz seen l=true
 |[],_,_,_=>rfl
 | f:: l,seen,h,hn=>by
  rw[EA,FE]at hn;obtain⟨h1,h2⟩:=h f EV;have h3:seen.contains f.name=false:=by
   cases hc:seen.contains f.name with
   |false=>rfl
   |true=>exact absurd (GD.1 hc) h2
  have ih:=ml l (seen++[f.name]) (fun g hg=>⟨(h g (Fa _ hg)).1,fun hm=>by
   rcases EF.1 hm with hm|hm
   ·exact (h g (Fa _ hg)).2 hm
   ·rw[Gm]at hm;exact hn.1 (by rw[<- hm];exact Fy (f:=(·.name)) hg)⟩) hn.2
  simp[iz,h1,h2,ih]
def sy{m:Mod}(h:bJ m=true)(l:List Fun)(hl:l.length<=30)(hf:∀f∈l,je f=true)(hn:(l.map (·.name)).Nodup):bJ { m with funcs:=l } = true:=by
 unfold bJ kN at h|-;simp only[Ea,Ej]at h|-;obtain⟨h1,h2,⟨⟨⟨⟨⟨h3,h4⟩,h5⟩,h6⟩,h7⟩,h8⟩,h9⟩:=h;exact⟨h1,ml l [] (fun f h=>⟨hf f h,by simp⟩) hn,⟨⟨⟨⟨⟨h3,h4⟩,hl⟩,h6⟩,h7⟩,h8⟩,h9⟩
def fG(s:bG)(l:List Fun):Mod:=⟨s,[],[],[],l,false,[],[],[]⟩
def sA{s:bG}(hs:bv s=true)(l:List Fun)(hl:l.length<=30)(hf:∀f∈l,je f=true)(hn:(l.map (·.name)).Nodup):bJ (fG s l)=true:=by
 have h:=ml l [] (fun f h=>⟨hf f h,by simp⟩) hn;unfold bJ kN;simp[fG,ut,h,hs,hl,dC,o6]
def b9(e:Exp)(f:Fun):Fun:={ f with body:=e }
def yA{e:Exp}(he:cW 12 e=true){f:Fun}(h:je f=true):je (b9 e f)=true:=by
 unfold je at h|-;simp only[Ea]at h|-;obtain⟨⟨⟨⟨h1,h2⟩,h3⟩,_⟩,h5⟩:=h;exact⟨⟨⟨⟨h1,h2⟩,h3⟩,he⟩,h5⟩
theorem wY(e:Exp)(f:Fun):d7 (b9 e f)=d7 f:=rfl
theorem nZ(e:Exp):(l:List Fun)->cG (l.map (b9 e))=cG l
 |[]=>rfl
 |f:: l=>by
  have ih:=nZ e l;unfold cG at ih |-;rw[EA,List.filter_cons,List.filter_cons];have:(b9 e f).pub=f.pub:=rfl;rw[this];cases f.pub
  ·exact ih
  ·simp only[EW,EA,ih,wY]
def o8(l:List Fun):cG l.reverse=(cG l).reverse:=by
 unfold cG;rw[List.filter_reverse,List.map_reverse]
def iR{l:List Fun}(hn:(l.map (·.name)).Nodup):((cG l).map (·.name)).Nodup:=by
 have e:(cG l).map (·.name)=(l.filter (·.pub)).map (·.name):=by
  unfold cG;rw[FD];rfl
 rw[e];exact hn.sublist ((List.filter_sublist (l:=l)).map _)
def mf{l:List Fun}{s:Sig}:s∈cG l↔∃f∈l,f.pub=true/\d7 f=s:=by
 unfold cG;rw[E3];constructor
 ·rintro⟨f,hf,rfl⟩;exact⟨f,(FO.1 hf).1,(FO.1 hf).2,rfl⟩
 ·rintro⟨f,hf,hp,rfl⟩;exact⟨f,FO.2 ⟨hf,hp⟩,rfl⟩
def gn{l:List Sig}(hn:(l.map (·.name)).Nodup):(cR l).Pairwise fun a b=>aC a.name b.name=true:=by
 have h1:=pk l;have h2:((cR l).map (·.name)).Nodup:=((dl l).map _).nodup_iff.2 hn;have h3:(cR l).Pairwise fun a b=>a.name≠b.name:=by
  have:=h2
  unfold List.Nodup at this;rw[Gs]at this;exact this
 exact h1.imp₂ (fun a b x y=>cU _ _ x (He y)) h3
theorem ol:(l l':List Sig)->(l.Pairwise fun a b=>aC a.name b.name=true)->(l'.Pairwise fun a b=>aC a.name b.name=true)->(∀x,x∈l↔x∈l')->l=l'
 |[],[],_,_,_=>rfl
 |[],y:: l',_,_,h=>by have:=(h y).2 EV;cases this
 |x:: l,[],_,_,h=>by have:=(h x).1 EV;cases this
 | x:: l,y:: l',h1,h2,h=>by
  obtain⟨a1,a2⟩:=Fj.1 h1;obtain⟨b1,b2⟩:=Fj.1 h2;have no:∀ {s:Sig},aC s.name s.name=true->False:=fun hs=>by rw[bz]at hs;cases hs
  have e:x=y:=by
   rcases Eo.1 ((h x).1 EV)with e|e
   ·exact e
   ·rcases Eo.1 ((h y).2 EV)with e'|e'
    ·exact e'.symm
    ·exact absurd (bX _ _ _ (b1 x e) (a1 y e')) fun h=>no h
  subst e;congr 1;refine ol l l' a2 b2 fun z=>⟨fun hz=>?_,fun hz=>?_⟩
  ·rcases Eo.1 ((h z).1 (Fa _ hz))with e|e
   ·exact absurd (a1 z hz) fun h=>no (by rw[e]at h;exact h)
   ·exact e
  ·rcases Eo.1 ((h z).2 (Fa _ hz))with e|e
   ·exact absurd (b1 z hz) fun h=>no (by rw[e]at h;exact h)
   ·exact e
def xb{l l':List Sig}(hp:∀x,x∈l↔x∈l')(hn:(l.map (·.name)).Nodup)(hn':(l'.map (·.name)).Nodup):cR l=cR l':=
 ol _ _ (gn hn) (gn hn') fun x=>by rw[(dl l).mem_iff,(dl l').mem_iff,hp]
theorem iw:(l:List Sig)->(l.Pairwise fun a b=>aC a.name b.name=true)->fJ (fun a b:Sig=>aC a.name b.name) l=true
 |[],_=>rfl
 |[_],_=>rfl
 |x:: y:: l,h=>by
  obtain⟨a1,a2⟩:=Fj.1 h;simp only[fJ,Ea];exact⟨a1 y EV,iw (y:: l) a2⟩
def kd{f:Fun}(F:FunOk f):dI (d7 f)=true:=by
 unfold dI d7;simp only[Ea,Ej,Fe,Eg,EH];refine⟨⟨⟨⟨F.name,F.plen⟩,F.eff⟩,F.res⟩,fun t ht=>?_⟩;obtain⟨z,hz,rfl⟩:=E3.1 ht;exact F.pars z hz
def dS{m:Mod}(h:bJ m=true):ic m=⟨m.name,cR (cG m.funcs)⟩:=Ef h
def gT{m:Mod}{s:Sig}:s∈cR (cG m.funcs)↔∃f∈m.funcs,f.pub=true/\d7 f=s:=by rw[(dl _).mem_iff,mf]
def o4{m:Mod}(h:bJ m=true):cu (ic m)=true:=by
 have M:=gb h;rw[dS h];unfold cu;simp only[Ea,Ej,Eg];refine⟨⟨M.name,?_⟩,fun s hs=>?_,iw _ (gn (iR M.fnames))⟩
 ·rw[(dl _).length_eq];unfold cG;rw[EH];exact FN (Gc _ _) M.flen
 ·obtain⟨f,hf,_,rfl⟩:=gT.1 hs;exact kd (M.fns f hf)
def of_same{m m':Mod}(h:bJ m=true)(h':bJ m'=true)(hn:m.name=m'.name)(hp:∀x,x∈cG m.funcs↔x∈cG m'.funcs):ic m=ic m':=by
 rw[dS h,dS h',hn,xb hp (iR (gb h).fnames) (iR (gb h').fnames)]
theorem lH{α:Type}{p:α->Bool}{x:α}:{l:List α} ->x∈l->p x=true->(∀y∈l,p y=true->y=x)->l.find? p=some x
 | y:: l,hx,hp,hu=>by
  by_cases hy:p y=true
  ·rw[List.find?_cons_of_pos hy,hu y EV hy]
  ·rw[List.find?_cons_of_neg hy];rcases Eo.1 hx with e|hx
   ·rw[e]at hp;exact absurd hp hy
   ·exact lH hx hp fun z hz=>hu z (Fa _ hz)
theorem key_inj:{l:List Fun} ->(l.map (·.name)).Nodup->{f g:Fun} ->f∈l->g∈l->f.name=g.name->f=g
 | x:: l,hn,f,g,hf,hg,e=>by
  rw[EA,FE]at hn;rcases Eo.1 hf with a|a
  ·rcases Eo.1 hg with b|b
   ·rw[a,b]
   ·exact absurd (by rw[<- a,e];exact Fy (f:=(·.name)) b) hn.1
  ·rcases Eo.1 hg with b|b
   ·exact absurd (by rw[<- b,<- e];exact Fy (f:=(·.name)) a) hn.1
   ·exact key_inj hn.2 a b e
def qc{m:Mod}(h:bJ m=true){f:Fun}(hf:f∈m.funcs):iy (ic m) f.name=if f.pub=true then some (d7 f)else none:=by
 have M:=gb h;have uniq:∀g∈m.funcs,g.name=f.name->g=f:=fun g hg e=>by
  exact key_inj M.fnames hg hf e
 rw[dS h];unfold iy;split
 ·rename_i hp;refine lH (gT.2 ⟨f,hf,hp,rfl⟩) (by simp[d7]) fun y hy hy'=>?_;obtain⟨g,hg,_,rfl⟩:=gT.1 hy;have e:g.name=f.name:=Fe.1 hy';rw[uniq g hg e]
 ·rename_i hp;rw[Gq];intro y hy hy';obtain⟨g,hg,gp,rfl⟩:=gT.1 hy;have e:g.name=f.name:=Fe.1 hy';rw[uniq g hg e]at gp;exact hp gp
theorem oI{m:Mod}(h:bJ m=true){k:Nat}(hk:k<m.funcs.length):
  bJ { m with funcs:=m.funcs.take k++m.funcs.drop (k+1) } = true/\
  (m.funcs[k].pub=true->df (ic m) (ic { m with funcs:=m.funcs.take k++m.funcs.drop (k+1) })=(2,m.funcs[k].name)/\df (ic { m with funcs:=m.funcs.take k++m.funcs.drop (k+1) }) (ic m)=(1,[]))/\
  (m.funcs[k].pub=false->df (ic m) (ic { m with funcs:=m.funcs.take k++m.funcs.drop (k+1) })=(0,[])/\df (ic { m with funcs:=m.funcs.take k++m.funcs.drop (k+1) }) (ic m)=(0,[])):=by
 have M:=gb h;have hfs:m.funcs=m.funcs.take k++m.funcs[k]:: m.funcs.drop (k+1):=by rw[<- EI hk,FC]
 have hsub:(m.funcs.take k++m.funcs.drop (k+1)).Sublist m.funcs:=by
  conv=>rhs;rw[hfs]
  exact GJ (GW _) (Gv _ _)
 have hfo:∀f∈m.funcs,je f=true:=fun f hf=>by
  unfold bJ at h;simp only[Ea]at h;exact ((ij _ _ h.2.1).1 f hf).1
 have hr:bJ { m with funcs:=m.funcs.take k++m.funcs.drop (k+1) } = true:=
  sy h _ (FN hsub.length_le M.flen) (fun f hf=>hfo f (hsub.subset hf)) (M.fnames.sublist (hsub.map _))
 have hmem:∀g∈m.funcs,g=m.funcs[k]\/g∈m.funcs.take k++m.funcs.drop (k+1):=fun g hg=>by
  rw[hfs]at hg;rcases EF.1 hg with h|h
  ·exact .inr (Gf _ h)
  ·rcases Eo.1 h with h|h
   ·exact .inl h
   ·exact .inr (Gb _ h)
 have hne:∀g∈m.funcs.take k++m.funcs.drop (k+1),g.name≠m.funcs[k].name:=fun g hg e=>by
  have hn:=M.fnames;rw[hfs,Hb,EA,List.nodup_append]at hn;obtain⟨n1,n2,n3⟩:=hn;rcases EF.1 hg with h|h
  ·exact n3 _ (Fy (f:=(·.name)) h) _ EV e
  ·exact (FE.1 n2).1 (by rw[<- e];exact Fy (f:=(·.name)) h)
 have hfm:=o4 h;have hfl:=o4 hr;refine⟨hr,fun hp=>?_,fun hp=>?_⟩
 ·have hmm:eh (ic m) (ic { m with funcs:=m.funcs.take k++m.funcs.drop (k+1) })=true:=(iP _ _).2 ⟨by rw[dS h,dS hr],hfm,hfl⟩;have keep1:∀g∈m.funcs.take k++m.funcs.drop (k+1),g.pub=true->fu (ic { m with funcs:=m.funcs.take k++m.funcs.drop (k+1) }) (d7 g)=true:=fun g hg gp=>by
   unfold fu
   have:=qc hr (f:=g) hg
   rw[Ef gp]at this;have e:(d7 g).name=g.name:=rfl;rw[e,this];exact ke (kd (M.fns g (hsub.subset hg)))
  have keep2:∀g∈m.funcs,g.pub=true->fu (ic m) (d7 g)=true:=fun g hg gp=>by
   unfold fu
   have:=qc h hg
   rw[Ef gp]at this;have e:(d7 g).name=g.name:=rfl;rw[e,this];exact ke (kd (M.fns g hg))
  have lost1:gz (ic m) (ic { m with funcs:=m.funcs.take k++m.funcs.drop (k+1) })=some (d7 m.funcs[k]):=by
   unfold gz;rw[dS h];refine lH (gT.2 ⟨_,Es hk,hp,rfl⟩) ?_ fun y hy hy'=>?_
   ·have:iy (ic { m with funcs:=m.funcs.take k++m.funcs.drop (k+1) }) m.funcs[k].name=none:=by
     rw[dS hr];unfold iy;rw[Gq];intro y hy hy';obtain⟨g,hg,_,rfl⟩:=gT.1 hy;exact hne g hg (Fe.1 hy')
    unfold fu;have e:(d7 m.funcs[k]).name=m.funcs[k].name:=rfl;rw[e,this];rfl
   ·obtain⟨g,hg,gp,rfl⟩:=gT.1 hy;rcases hmem g hg with e|e
    ·rw[e]
    ·rw[keep1 g e gp]at hy';cases hy'
  have lost2:gz (ic { m with funcs:=m.funcs.take k++m.funcs.drop (k+1) }) (ic m)=none:=by
   rw[nQ,dS hr];intro s hs;obtain⟨g,hg,gp,rfl⟩:=gT.1 hs;exact keep2 g (hsub.subset hg) gp
  have hm2:eh (ic { m with funcs:=m.funcs.take k++m.funcs.drop (k+1) }) (ic m)=true:=by rw[qE];exact hmm
  unfold df;rw[hmm,hm2,lost1,lost2];exact⟨rfl,rfl⟩
 ·have e:ic { m with funcs:=m.funcs.take k++m.funcs.drop (k+1) } = ic m:=of_same hr h rfl fun x=>by
   rw[mf,mf];constructor
   ·rintro⟨g,hg,gp,rfl⟩;exact⟨g,hsub.subset hg,gp,rfl⟩
   ·rintro⟨g,hg,gp,rfl⟩;rcases hmem g hg with e|e
    ·rw[e,hp]at gp;cases gp
    ·exact⟨g,e,gp,rfl⟩
  rw[e,iX,Ef hfm];exact⟨rfl,rfl⟩
def yw{m:Mod}(h:bJ m=true){e:Exp}(he:cW 12 e=true):bJ (fG m.name (m.funcs.map (b9 e)).reverse)=true/\ic (fG m.name (m.funcs.map (b9 e)).reverse)=ic m:=by
 have M:=gb h;have hfo:∀f∈m.funcs,je f=true:=fun f hf=>by
  unfold bJ at h;simp only[Ea]at h;exact ((ij _ _ h.2.1).1 f hf).1
 have hr:bJ (fG m.name (m.funcs.map (b9 e)).reverse)=true:=by
  refine sA M.name _ (by simpa using M.flen) (fun f hf=>?_) ?_
  ·obtain⟨g,hg,rfl⟩:=E3.1 (G6.1 hf);exact yA he (hfo g hg)
  ·rw[List.map_reverse,FD];exact (List.reverse_perm _).nodup_iff.2 M.fnames
 refine⟨hr,of_same hr h rfl fun x=>?_⟩;show x∈cG (m.funcs.map (b9 e)).reverse↔_;rw[o8,nZ,G6]
def o3{m:Mod}(hm:m.Lim):(ic m).Lim:=by
 unfold ic;split
 ·rename_i hr;have hl:(cR (cG m.funcs)).length<=30:=by
   rw[(dl _).length_eq];unfold cG;rw[EH];exact FN (Gc _ _) (gb hr).flen
  refine⟨by show (cR (cG m.funcs)).length<=_;omega,fun s hs=>?_⟩;have hs':s∈cG m.funcs:=(dl _).mem_iff.1 hs;unfold cG at hs';obtain⟨f,hf,rfl⟩:=E3.1 hs';have hf':=hm.fns f (FO.1 hf).1;refine⟨?_,fun t ht=>?_,hf'.result⟩
  ·show (f.params.map (·.2)).length<=_;rw[EH];exact hf'.params
  ·obtain⟨z,hz,rfl⟩:=E3.1 ht;exact hf'.pty z hz
 ·exact⟨by decide,fun s hs=>by cases hs⟩
end Go.Av.Ap
namespace Go.Av.Ap
open Go Go.Av
abbrev xr:=bG×bG
def qL(r:xr):AV:=.agg [.str r.1,.str r.2]
def qM(l:List xr):AV:=.sl (l.map qL)
def sr(l:List (List xr)):AV:=.sl (l.map qM)
@[simp] theorem zv(r:xr):ab (qL r)=[.str r.1,.str r.2]:=rfl
@[simp] theorem B9(r:xr):AV.agg [.str r.1,.str r.2]=qL r:=rfl
@[simp] theorem wL(r:xr):bK 2 (qL r)=true:=rfl
@[simp] theorem Bg(l:List xr):bS 2 (l.map qL)=true:=cd wL l
@[simp] theorem Ab(g:Nat->Nat->Nat->Nat->Bool->AV)(r:xr):cl g (qL r)=qL r:=rfl
@[simp] theorem xT(g:Nat->Nat->Nat->Nat->Bool->AV)(l:List xr):cl g (qM l)=qM l:=by simp[qM,cl,dm g qL (Ab g)]
@[simp] theorem BX(g:Nat->Nat->Nat->Nat->Bool->AV)(l:List (List xr)):cl g (sr l)=sr l:=by simp[sr,cl,dm g qM (xT g)]
section
variable {V:Type}
end
end Go.Av.Ap
namespace Go.Av.Ap
open Go Go.Av
mutual
def AC:Exp->List Exp
 |.mk o n s m ns es=>.mk o n s m ns es:: tb es
def tb:List Exp->List Exp
 |[]=>[]
 |e:: es=>AC e++tb es
end
end Go.Av.Ap
namespace Go.Av
open Go
section
variable {F:Fence} {n:Nat} {P:Program} {w w':World} {ops:Array Oper} {rest:List Oper} {o:Oper} {a:Act} {Q:Exit->Act->World->Prop} {v:Value}
end
end Go.Av
namespace Go.Av.Ap
open Go Go.Av
def BN{T:TT}{t e:Nat}{ti ei:TI}(ht:T t=some ti)(hk:ti.kind= .slice e)(he:T e=some ei){x:AV}(hx:bK ei.size x=true)(hb:0<ei.bytes)(hs:0<ei.size)(hc:ei.bytes<=140737488355328)(h:Hp):
  appH T t false .hn (.sl [x]) h= .ok (.hs h.length 0 1 ei.size ei.agg) (h++[ab x]):=by
 have:bS ei.size [x]=true:=by simp[bS,hx]
 simp[appH,ht,hk,he,eY,this,hb,hs,gZ,hc]
def BO{T:TT}{t e:Nat}{ti ei:TI}(ht:T t=some ti)(hk:ti.kind= .slice e)(he:T e=some ei){x:AV}(hx:bK ei.size x=true)(hb:0<ei.bytes)(hs:0<ei.size){h:Hp}{q n:Nat}{cs:List AV}(h0:h[q]? = some cs)(hok:cs.all aL=true)(hl:cs.length=n*ei.size)(hn:0<n)(hc:(n+1)*ei.bytes<=140737488355328):appH T t false (.hs q 0 n ei.size ei.agg) (.sl [x]) h= .ok (.hs h.length 0 (n+1) ei.size ei.agg) ((h.set q [])++[cs++ab x]):=by
 have h1:bS ei.size [x]=true:=by simp[bS,hx]
 have h2:List.all cs aL=true:=hok;have h3:0<n*ei.size:=FZ hn hs;have h4:cs.take (n*ei.size)=cs:=by rw[<- hl];exact G2
 simp only[appH,ht,hk,he,eY,h1,hb,hs,gZ,h0,h2,hl,Ff,GU,D9,FW,List.length_singleton,List.isEmpty_cons,Ed,F5,List.flatMap_nil,GI,h3,h4,Eb];rw[Fq hc];simp
end Go.Av.Ap
