/- The abstract evaluator and plain laws, part 3. Condition: the table of types is the program's. -/
import Derived.Test.YtihmmkncokjbaaaGreatDoorLb
import Derived.KernelRfl
import Derived.Below
import Derived.Lib.IndexMore
import Derived.Lib.Fields
import Derived.Lib.AtoiAll
import Derived.Lib.SplitLaws
import Derived.IntWalk
import Derived.Shelf.SlSortCmp.WholeK
import Derived.Lib.Bytealg
import Derived.Shelf.Strings.IndexAnyAll
import Derived.Shelf.Small.Utf8
import Derived.Laws.RangeAny
import Derived.Laws.Runes
import Derived.Scope
import Derived.Shelf.RegionOpenPlain
import Derived.Lib.DecodeN
import Derived.Lib.OthersKept
import Derived.Lib.Small
import Derived.ChangeSame
import Derived.OpenShut
import Derived.ChangeReads
import Derived.ReadAgain
import Derived.Deep.Slices
import Derived.WideShapes
import Derived.SizedLaws
import Derived.Sort.AssemblyPlain
import Derived.Sort.MapsRangeIn
import Derived.Maps.OwnIn
import Derived.RangeFuncSeq
import Derived.Lib.AtoiAllCases
import Derived.Lib.Split
import Derived.Lib.IndexBytes
set_option linter.defProp false
set_option linter.unusedSimpArgs false
set_option linter.unusedVariables false
namespace Go.Av
variable [Dr]
section
variable {cx:Cx} {ops:Array Oper} {base:Nat}
structure Rel (ops:Array Oper) (L:List Nat) (e2 e:Env):Prop where
 get:∀t,e2.get t=e.get t\/(e2.get t=Ent.none/\t<1000/\∀i∈L,t ∉ dN ops i)
 al:∀g,be e2.al g=be e.al g
 lb:∀B,bY e2.lb B=bY e.lb B
 lf:∀B,bL e2.sl B=true->bL e.sl B=true
omit [Dr]in
theorem Rel.refl(ops:Array Oper)(L:List Nat)(e:Env):Rel ops L e e:=⟨fun _=>.inl rfl,fun _=>rfl,fun _=>rfl,fun _ h=>h⟩
omit [Dr]in
theorem Rel.sub{L L':List Nat}{e2 e:Env}(H:Rel ops L e2 e)(h:∀i∈L',i∈L):Rel ops L' e2 e:=
 ⟨fun t=>(H.get t).imp id fun⟨h1,h2,h3⟩=>⟨h1,h2,fun i hi=>h3 i (h i hi)⟩,H.al,H.lb,H.lf⟩
omit [Dr]in
theorem Rel.read{L:List Nat}{e2 e:Env}(H:Rel ops L e2 e){i t:Nat}(hi:i∈L)(ht:t∈dN ops i):e.get t=e2.get t:=by
 rcases H.get t with h|⟨_,_,h⟩
 ·exact h.symm
 ·exact absurd ht (h i hi)
omit [Dr]in
theorem Rel.agree{L:List Nat}{e2 e:Env}(H:Rel ops L e2 e){i:Nat}{o:Oper}(hi:i∈L)(ho:ops[i]? = some o):Agree cx o e2 e:=by
 refine⟨fun t ht=>H.read hi (by rw[io ho];simp[ht]),fun _=>⟨fun t ht=>?_,fun B=>(H.lb B).symm⟩,fun _ g=>(H.al g).symm,fun _ s _ hl=>H.lf _ hl⟩;rcases H.get t with h|⟨_,h,_⟩
 ·exact h.symm
 ·omega
omit [Dr]in
theorem Rel.upd{L:List Nat}{e2 e:Env}(H:Rel ops L e2 e)(d:Option Tmp)(u:Upd):Rel ops L (e2.upd d u) (e.upd d u):=by
 refine⟨fun t=>?_,fun g=>?_,fun B=>?_,fun B hB=>?_⟩
 ·rw[dt,dt];split
  ·exact .inl rfl
  ·rw[kz,kz];split
   ·exact .inl rfl
   ·exact H.get t
 ·show be (u.add++fy e2.al u.drop) g=be (u.add++fy e.al u.drop) g;have:be (fy e2.al u.drop) g=be (fy e.al u.drop) g:=by
   cases u.drop with
   |none=>exact H.al g
   |some k=>simp only[fy,lF,H.al g]
  rw[fA,fA,this]
 ·show bY (mZ (e8 e2.lb u.unlb) u.lb) B=bY (mZ (e8 e.lb u.unlb) u.lb) B;have:bY (e8 e2.lb u.unlb) B=bY (e8 e.lb u.unlb) B:=by
   cases u.unlb with
   |none=>exact H.lb B
   |some k=>simp only[e8,nU,H.lb B]
  cases u.lb with
  |none=>exact this
  |some x=>
   obtain⟨k,n⟩:=x;simp only[mZ,e7,this]
 ·have hB':bL (sP d u.ent (u.ls++e2.sl)) B=true:=hB;show bL (sP d u.ent (u.ls++e.sl)) B=true;rw[fE,iN]at hB' |-;simp only[PO]at hB' |-;exact⟨hB'.1,hB'.2.1,H.lf B hB'.2.2⟩
omit [Dr]in
theorem Rel.run:∀(is:List Nat){L:List Nat}{e2 e:Env}(_:Rel ops L e2 e)(_:∀i∈is,i∈L)(h:Hp),bF cx base ops is e2 h≠.fail->
  (∃e2' e' h',bF cx base ops is e2 h= .ok e2' h'/\bF cx base ops is e h= .ok e' h'/\Rel ops L e2' e')\/∃v h',bF cx base ops is e2 h= .pan v h'/\bF cx base ops is e h= .pan v h'
 |[],L,e2,e,H,_,h,_=>.inl ⟨e2,e,h,rfl,rfl,H⟩
 | i:: is,L,e2,e,H,hL,h,hr=>by
  simp only[bF]at hr |-;unfold stepG at hr |-;simp only[af,ay]at hr |-;cases hx:gd cx base ops i e2 h with
  |fail=>rw[hx]at hr;exact absurd rfl hr
  | _ =>
   have ho:∃o,ops[i]? = some o:=by
    cases ho:ops[i]? with
    |none=>unfold gd at hx;rw[ho]at hx;cases hx
    |some o=>exact⟨o,rfl⟩
   obtain⟨o,ho⟩:=ho;have hi:=hL i (by simp);have hy:gd cx base ops i e h=gd cx base ops i e2 h:=ic ho (fun t ht=>H.read hi (by rw[io ho];simp[ht])) (H.agree hi ho) (by rw[hx];simp);rw[hy,hx]
   first
    | rw[hx]at hr
      exact Rel.run is (H.upd _ _) (fun k hk=>hL k (by simp[hk])) _ hr
    |exact .inr ⟨_,_,rfl,rfl⟩
omit [Dr]in
theorem rq(e:Env):∀(ds:List Nat)(t:Nat),(forget e ds).get t=if t∈ds then Ent.none else e.get t
 |[],t=>by simp[forget]
 | d:: ds,t=>by
  show cF ((d,Ent.none):: (forget e ds).sl) t=_;rw[cY];by_cases hd:d=t
  ·subst hd;simp
  ·rw[if_neg hd]
   have:=rq e ds t
   simp only[Env.get]at this;rw[this];have hd':¬t=d:=fun h=>hd h.symm;simp[hd',Env.get]
omit [Dr]in
theorem pH(e:Env):∀(ds:List Nat),(forget e ds).al=e.al/\(forget e ds).lb=e.lb/\∀B,bL (forget e ds).sl B=bL e.sl B
 |[]=>⟨rfl,rfl,fun _=>rfl⟩
 |_d:: ds=>pH e ds
omit [Dr]in
theorem pY(e:Env)(f:Nat->AV):∀(outs:List Nat)(pre:List AV)(t:Nat),(gW e (pre++outs.map f) pre.length outs).get t=if t∈outs then⟨.val (f t),none⟩else e.get t
 |[],pre,t=>by simp[gW]
 | d:: ds,pre,t=>by
  show cF ((d,⟨.val (ae (pre++(d:: ds).map f) pre.length),none⟩):: (gW e (pre++(d:: ds).map f) (pre.length+1) ds).sl) t=_;rw[cY];have hn:ae (pre++(d:: ds).map f) pre.length=f d:=by simp[ae]
  by_cases hd:d=t
  ·subst hd;rw[hn];simp
  ·rw[if_neg hd]
   have:=pY e f ds (pre++[f d]) t
   simp only[QP,P0,P4,Qr,Rb]at this;simp only[Env.get,QO]at this |-;rw[this];have hd':¬t=d:=fun h=>hd h.symm;simp[hd']
omit [Dr]in
theorem om(e:Env)(vs:List AV):∀(outs:List Nat)(i:Nat),(gW e vs i outs).al=e.al/\(gW e vs i outs).lb=e.lb/\∀B,bL (gW e vs i outs).sl B=bL e.sl B
 |[],_i=>⟨rfl,rfl,fun _=>rfl⟩
 |_d:: ds,i=>om e vs ds (i+1)
omit [Dr]in
theorem Au(gs:List (Option (Nat×Bool)×List Nat))(t:Nat):Ar ops gs t=true↔∃i∈iZ gs,t∈dN ops i:=by
 unfold Ar iZ;simp only[List.any_eq_true,List.mem_flatMap,iO];constructor
 ·rintro⟨g,hg,i,hi,ht⟩;exact⟨i,⟨g,hg,hi⟩,ht⟩
 ·rintro⟨i,⟨g,hg,hi⟩,ht⟩;exact⟨g,hg,i,hi,ht⟩
omit [Dr]in
theorem Rel.close{is:List Nat}{gs:List (Option (Nat×Bool)×List Nat)}{e2 e e':Env}(H:Rel ops (is++iZ gs) e2 e)(hS:Small ops)(T:Turned (dC ops is) e e'){vs:List AV}{f:Nat->AV}(hvs:vs=(dZ ops is gs).map f)(hf:∀t∈dZ ops is gs,e'.get t=⟨.val (f t),none⟩\/(f t= .any/\t<1000/\∀i∈iZ gs,t ∉ dN ops i)):Rel ops (iZ gs) (gW (forget e2 (dC ops is)) vs 0 (dZ ops is gs)) e':=by
 have hr:=om (forget e2 (dC ops is)) vs (dZ ops is gs) 0;have hr2:=pH e2 (dC ops is);refine⟨fun t=>?_,fun g=>?_,fun B=>?_,fun B hB=>?_⟩
 ·have hg:=pY (forget e2 (dC ops is)) f (dZ ops is gs) [] t;simp only[Qv,Qr]at hg;rw[hvs,hg];split
  ·rename_i ht;rcases hf t ht with h|⟨h1,h2,h3⟩
   ·exact .inl h.symm
   ·exact .inr ⟨by rw[h1];rfl,h2,h3⟩
  ·rename_i ht;rw[rq];split
   ·rename_i hd;refine .inr ⟨rfl,?_,fun i hi hti=>ht ?_⟩
    ·unfold dC at hd;simp only[Sk]at hd;obtain⟨i,hi,hd⟩:=hd;unfold ez at hd;cases hoi:ops[i]? with
     |none=>rw[hoi]at hd;simp at hd
     |some o=>rw[hoi]at hd;exact hS.dst i o hoi t hd
    ·unfold dZ;rw[SU];exact⟨hd,(Au gs t).2 ⟨i,hi,hti⟩⟩
   ·rename_i hd;rw[T.get t hd];rcases H.get t with h|⟨h1,h2,h3⟩
    ·exact .inl h
    ·exact .inr ⟨h1,h2,fun i hi=>h3 i (by simp[hi])⟩
 ·rw[hr.1,hr2.1,T.al];exact H.al g
 ·rw[hr.2.1,hr2.2.1,T.lb];exact H.lb B
 ·rw[hr.2.2,hr2.2.2]at hB;exact T.lf B (H.lf B hB)
omit [Dr]in
theorem sA(l m:List Nat):∀e:Env,bF cx base ops (l++m) e=af (bF cx base ops l e) (bF cx base ops m):=by
 induction l with
 |nil=>intro e;rfl
 |cons i l ih=>
  intro e;show af (stepG cx base ops i e) (bF cx base ops (l++m))=af (af (stepG cx base ops i e) (bF cx base ops l)) (bF cx base ops m);rw[fu];congr 1;funext e';exact ih e'
omit [Dr]in
theorem HP{x:Ent}(h1:nc x=true)(h2:x.g=none):x=⟨.val x.av,none⟩:=by
 obtain⟨v,g⟩:=x;cases v with
 |val a=>simp only at h2;subst h2;rfl
 |loc B off=>cases h1
omit [Dr]in
theorem ky{ρ:Type}(hS:Small ops):∀(gs:List (Option (Nat×Bool)×List Nat))(e2 e:Env)(k:Env->M ρ)(h:Hp),(∀g∈gs,∀i∈g.2,guardOf ops i=g.1)->Rel ops (iZ gs) e2 e->fa cx base ops gs e2 k h≠.fail->
  (∃e2' e' h',fa cx base ops gs e2 k h=k e2' h'/\bF cx base ops (iZ gs) e h= .ok e' h'/\Rel ops [] e2' e')\/∃v h',fa cx base ops gs e2 k h= .pan v h'/\bF cx base ops (iZ gs) e h= .pan v h'
 |[],e2,e,k,h,_,H,_=>.inl ⟨e2,e,h,rfl,rfl,H⟩
 | (none,is):: gs,e2,e,k,h,hg,H,hr=>by
  have hg0:∀i∈is,guardOf ops i=none:=hg (none,is) (by simp);have hfl:iZ ((none,is):: gs)=is++iZ gs:=rfl;rw[hfl]at H |-;rw[sA];simp only[fa]at hr |-;rw[ye is e2 _ hg0]at hr |-;simp only[af]at hr |-;have hr2:bF cx base ops is e2 h≠.fail:=fun hf=>by rw[hf]at hr;exact hr rfl
  rcases H.run (base:=base) (cx:=cx) is (fun i hi=>by simp[hi]) h hr2 with⟨e2',e',h',h1,h2,H'⟩|⟨v,h',h1,h2⟩
  ·rw[h1]at hr |-;rw[h2];exact ky hS gs e2' e' k h' (fun g hgg=>hg g (by simp[hgg])) (H'.sub fun i hi=>by simp[hi]) hr
  ·rw[h1,h2];exact .inr ⟨v,h',rfl,rfl⟩
 | (some (j,want),is):: gs,e2,e,k,h,hg,H,hr=>by
  have hg0:∀i∈is,guardOf ops i=some (j,want):=hg (some (j,want),is) (by simp);have hfl:iZ ((some (j,want),is):: gs)=is++iZ gs:=rfl;rw[hfl]at H |-;rw[sA];simp only[fa]at hr |-;cases hdj:ez ops j with
  |none=>rw[hdj]at hr;exact absurd rfl hr
  | some t=>
   rw[hdj]at hr;simp only at hr |-;revert hr;cases hc:((is.all fun i=>match ops[i]? with|some o=>fS cx o&&o.dst.isSome|none=>false)&&!(gA (dC ops is) t))with
   |false=>intro hr;exact absurd rfl hr
   | true=>
    intro hr;simp only[PV]at hr |-;simp only[PO,QU,P7]at hc;have G:GroupOk cx ops j want t is:=by
     refine⟨hdj,fun i hi=>?_,fun ht=>?_⟩
     ·have:=hc.1 i hi
      cases hoi:ops[i]? with
      |none=>rw[hoi]at this;cases this
      |some o=>
       rw[hoi]at this;simp only[PO]at this;exact⟨o,rfl,hg0 i hi,this.1⟩
     ·rw[(iO _ _).2 ht]at hc;exact Bool.noConfusion hc.2
    have htr:∀i∈is,t∈dN ops i:=fun i hi=>by
     obtain⟨o,ho,hgi,_⟩:=G.each i hi;rw[io ho];have:o.guard=some (j,want):=by simpa [guardOf,ho]using hgi
     have:t∈fP ops o:=by
      unfold fP;rw[this];simp only;rw[show (ops[j]?).bind (·.dst)=some t from hdj];simp
     simp[this]
    -- the guard says yes
    cases is with
    | nil=>
     have hrn:∀e,bF cx base ops [] e=ay e:=fun _=>rfl;rw[hrn,ap];have ho:dZ ops [] gs=[]:=rfl;have hd:dC ops []=[]:=rfl;rw[ho,hd]at hr |-;have hpure:∀ {q:AV} {m:M (List AV)},m h= .ok [] h->aF q want ([]:List Nat).length m h≠.fail->aF q want ([]:List Nat).length m h= .ok [] h:=by
      intro q m hm hne;cases q with
      |bool b=>
       simp only[aF];cases b== want with
       |true=>exact hm
       |false=>rfl
      |tup vs=>
       cases vs with
       |nil=>rfl
       |cons v vs=>exact absurd rfl hne
      |_=>exact absurd rfl hne
     simp only[af]at hr |-;have hp:=hpure (q:=e2.av t) (m:=jY cx base ops true [] e2 fun e'=>bif ([]:List Nat).all (fun t=>nc (e'.get t))then ay (([]:List Nat).map e'.av)else f7) rfl (fun hf=>by rw[hf]at hr;exact hr rfl);rw[hp]at hr |-;exact ky hS gs e2 e k h (fun g hgg=>hg g (by simp[hgg])) (H.sub fun i hi=>by simp[hi]) hr
    |cons i0 is0=>
    have hav:e.av t=e2.av t:=by
     have:=H.read (i:=i0) (by simp) (htr i0 (by simp))
     simp only[Env.av,this]
    generalize hiseq:i0:: is0=is at *;have hoff:Off (e2.av t) want->(aF (e2.av t) want (dZ ops is gs).length (jY cx base ops true is e2 fun e'=>bif (dZ ops is gs).all (fun t=>nc (e'.get t))then ay ((dZ ops is gs).map e'.av)else f7))=ay (List.replicate (dZ ops is gs).length (.tup [])):=by
     rintro (hq|⟨b,hq,hb⟩)
     ·rw[hq];rfl
     ·rw[hq];simp only[aF,hb,P3]
    have hcase:Off (e2.av t) want\/e2.av t= .bool want:=by
     cases hq:e2.av t with
     |bool b=>
      cases hb:(b== want)with
      |true=>right;simp at hb;rw[hb]
      |false=>exact .inl (.inr ⟨b,rfl,hb⟩)
     |tup vs=>
      cases vs with
      |nil=>exact .inl (.inl rfl)
      |cons v vs=>rw[hq]at hr;exact absurd rfl hr
     |_=>rw[hq]at hr;exact absurd rfl hr
    rcases hcase with ho|hy
    ·rw[hoff ho,ap]at hr |-;obtain⟨e',h1,T,h2⟩:=Io (base:=base) is e h G (by rw[hav];exact ho);simp only[af];rw[h1];refine ky hS gs _ e' k h (fun g hgg=>hg g (by simp[hgg])) (H.close hS T (f:=fun _=>.tup []) ?_ fun s hs=>.inl ?_) hr
     ·exact (List.map_const' ..).symm
     ·refine h2 s ?_;unfold dZ at hs;exact (SU.1 hs).1
    ·rw[hy]at hr |-;simp only[aF,QL,PV,af]at hr |-;rw[ul is e2 _ h G hy]at hr |-;simp only[af]at hr |-;have hr2:bF cx base ops is e2 h≠.fail:=fun hf=>by rw[hf]at hr;exact hr rfl
     rcases H.run (base:=base) (cx:=cx) is (fun i hi=>by simp[hi]) h hr2 with⟨e2',e',h',h1,h2,H'⟩|⟨v,h',h1,h2⟩
     ·rw[h1]at hr |-;rw[h2];simp only at hr |-;have T2:=ot is e2 e2' h h' G hy h1;have T:=ot is e e' h h' G (by rw[hav];exact hy) h2;cases hv:(dZ ops is gs).all (fun t=>nc (e2'.get t))with
      |false=>rw[hv]at hr;exact absurd rfl hr
      |true=>
       rw[hv]at hr;simp only[PV,ay]at hr |-;refine ky hS gs _ e' k h' (fun g hgg=>hg g (by simp[hgg])) (H.close hS T (f:=e2'.av) rfl fun s hs=>?_) hr;have hsd:s∈dC ops is:=by unfold dZ at hs;exact (SU.1 hs).1
       have hval:=HP (P7.1 hv s hs) (T2.ng s hsd);rcases H'.get s with h3|⟨h3,h4,h5⟩
       ·left;rw[<- h3];exact hval
       ·right;exact⟨by simp only[Env.av,h3];rfl,h4,fun i hi=>h5 i (by simp[hi])⟩
     ·rw[h1,h2];exact .inr ⟨v,h',rfl,rfl⟩
end
end Go.Av
namespace Go.Av
variable [Dr]
omit [Dr]in
theorem kW(acc:List Nat):∀(es:List Edge)(x:Nat),(ke acc es).testBit x=true↔∃e∈es,Region.binds .any e=true/\(e.on=x\/(acc.getD e.on 0).testBit x=true)
 |[],x=>by simp[ke]
 | e :: es,x=>by
  simp only[ke];cases hb:Region.binds .any e with
  | false=>
   simp only[P3,kW acc es x,Qm];constructor
   ·rintro⟨e',he,h⟩;exact⟨e',.inr he,h⟩
   ·rintro⟨e',rfl|he,h⟩
    ·rw[hb]at h;exact absurd h.1 (by simp)
    ·exact⟨e',he,h⟩
  | true=>
   simp only[PV,Nat.testBit_or,QF,kW acc es x,Qm,Nat.testBit_two_pow,PW];constructor
   ·rintro ((⟨e',he,h⟩|h)|h)
    ·exact⟨e',.inr he,h⟩
    ·exact⟨e,.inl rfl,hb,.inl h⟩
    ·exact⟨e,.inl rfl,hb,.inr h⟩
   ·rintro⟨e',rfl|he,h1,h2⟩
    ·rcases h2 with h2|h2
     ·exact .inl (.inr h2)
     ·exact .inr h2
    ·exact .inl (.inl ⟨e',he,h1,h2⟩)
omit [Dr]in
theorem tk:∀(os:List Oper)(acc:List Nat),∃r:List Nat,yO os acc=acc++r/\r.length=os.length/\∀(k:Nat)(o:Oper),os[k]? = some o->r[k]? = some (ke (acc++r.take k) o.after.toList)
 |[],acc=>⟨[],by simp[yO],rfl,by simp⟩
 | o:: os,acc=>by
  obtain⟨r,h1,h2,h3⟩:=tk os (acc++[ke acc o.after.toList]);refine⟨ke acc o.after.toList:: r,by simp[yO,h1],by simp[h2],fun k o' ho=>?_⟩;cases k with
  |zero=>simp at ho;subst ho;simp
  |succ k=>
   simp only[PZ,Rz]at ho |-;rw[h3 k o' ho];simp
section
variable {ops:Array Oper}
def lI(ops:Array Oper):List Nat:=yO ops.toList []
omit [Dr]in
theorem Fb{j:Nat}{o:Oper}(ho:ops[j]? = some o):(lI ops).length=ops.size/\(lI ops).getD j 0=ke ((lI ops).take j) o.after.toList:=by
 obtain⟨r,h1,h2,h3⟩:=tk ops.toList [];have h4:lI ops=r:=by unfold lI;rw[h1];simp
 rw[h4];refine⟨by simp[h2],?_⟩
 have:=h3 j o (by simpa using ho)
 rw[Qw,this];simp
omit [Dr]in
theorem BV{listed:Nat->Prop}(hcl:∀(j:Nat)(o:Oper),ops[j]? = some o->listed j->∀e∈o.after.toList,Region.binds .any e=true->listed e.on):
  ∀(j:Nat)(o:Oper),ops[j]? = some o->(∀e∈o.after.toList,Region.binds .any e=true->listed e.on)->∀x,((lI ops).getD j 0).testBit x=true->listed x:=by
 intro j
 induction j using Nat.strongRecOn with
 | _ j ih=>
  intro o ho hl x hx;obtain⟨hlen,hget⟩:=Fb ho;rw[hget,kW]at hx;obtain⟨e,he,hb,hx|hx⟩:=hx
  ·rw[<- hx];exact hl e he hb
  ·by_cases hj:e.on<j
   ·have hjs:j<ops.size:=(QY.1 ho).1;have hos:ops[e.on]? = some ops[e.on]:=Q7 (by omega);have h1:((lI ops).take j).getD e.on 0=(lI ops).getD e.on 0:=by
     rw[Qw,Qw,Qo,PS hj]
    rw[h1]at hx;exact ih e.on hj _ hos (hcl e.on _ hos (hl e he hb)) x hx
   ·rw[Qw,Qo,if_neg hj]at hx;simp at hx
def Do(cx:Cx)(ops:Array Oper)(i j:Nat):Prop:=((lI ops).getD i 0).testBit j=false/\(((lI ops).getD j 0).testBit i=true\/nQ cx ops i j=true)
omit [Dr]in
theorem pQ{cx:Cx}:∀ {l:List Nat},lg cx ops (lI ops) l=true->l.Pairwise (Do cx ops)/\∀i∈l,((lI ops).getD i 0).testBit i=false
 |[],_=>⟨.nil,by simp⟩
 |i:: l,h=>by
  simp only[lg,PO,QU,P7,QF]at h;obtain⟨⟨h1,h2⟩,h3⟩:=h;obtain⟨h4,h5⟩:=pQ h3;refine⟨.cons (fun j hj=>h2 j hj) h4,fun k hk=>?_⟩;simp only[Qm]at hk;rcases hk with rfl|hk
  ·exact h1
  ·exact h5 k hk
omit [Dr]in
theorem lM:∀ {l:List Nat},distinct l=true->l.Nodup
 |[],_=>.nil
 |i:: l,h=>by
  simp only[distinct,PO,QU]at h;refine SA.2 ⟨fun hi=>?_,lM h.2⟩;rw[(iO _ _).2 hi]at h;exact Bool.noConfusion h.1
variable {P:Program} {cx:Cx} {c:Entry} {N base:Nat}
theorem wI(hT:TOK P cx.T)(hC:df P cx.own cx.call)(hI:IsoPure cx)(hO:OpsOk N cx ops)(hS:Small ops)(hbit:∀i x,((lI ops).getD i 0).testBit x=true->x<ops.size)(hself:∀i,i<ops.size->((lI ops).getD i 0).testBit i=false){Q:Exit->Act->World->Prop}:∀(n:Nat)(rest:List Nat)(listed:Array Bool)(D:List Nat)(e:Env)(h:Hp)(a:Act)(w:World),rest.length=n->listed.size=ops.size->rest.Nodup->
  (∀i,i∈rest↔i<ops.size/\listed.getD i true=false)->(∀i∈rest,i ∉ D)->(∀i∈D,i<ops.size)->
  (∀(j:Nat)(o:Oper),ops[j]? = some o->listed.getD j false=true->∀e∈o.after.toList,Region.binds .any e=true->listed.getD e.on false=true)->rest.Pairwise (Do cx ops)->
  gu c N (UD base D) e h a w->bF cx base ops rest e h≠.fail->
  (∀e0 e' h' a' w',bF cx base ops rest e h= .ok e0 h'->EqE e0 e'->gu c N (UR base ops.size) e' h' a' w'->a'.defers=a.defers->Q .normal a' w')->
  (∀pv h' v w' a',bF cx base ops rest e h= .pan pv h'->mX c pv h' v w'->a'.defers=a.defers->Q (.panic [{ v,recovered:=false }]) a' w')->wpAny P .any ops Q n listed a w
 |0,rest,listed,D,e,h,a,w,hlen,hsz,hnd,hmem,hdis,hD,hcl,hpw,H,hr,hn,hp=>by
  have:rest=[]:=P6 hlen;subst this;refine⟨?_,hn e e h a w rfl (.refl e) (H.wider (IQ hD)) rfl⟩;refine List.eq_nil_iff_forall_not_mem.2 fun i hi=>?_;obtain⟨h0,o,ho,_⟩:=mem_ready.1 hi
  have:=(hmem i).2 ⟨(QY.1 ho).1,h0⟩
  simp at this
 | n + 1,rest,listed,D,e,h,a,w,hlen,hsz,hnd,hmem,hdis,hD,hcl,hpw,H,hr,hn,hp=>by
  have hgd:∀i,i<ops.size->listed.getD i true=listed.getD i false:=fun i hi=>by
   rw[Qz,Qz,Q7 (by omega)];rfl
  refine⟨fun hemp=>?_,fun i hi=>?_⟩
  ·exfalso;cases rest with
   |nil=>simp at hlen
   | cons r0 tl=>
    have hr0:=(hmem r0).1 (by simp);have hor:ops[r0]? = some ops[r0]:=Q7 hr0.1;have:r0∈Region.ready .any ops listed:=by
     refine mem_ready.2 ⟨hr0.2,_,hor,fun ed hed hb=>?_⟩;have hbt:((lI ops).getD r0 0).testBit ed.on=true:=by
      rw[(Fb hor).2,kW];exact⟨ed,by simpa using hed,hb,.inl rfl⟩
     have hlt:=hbit r0 ed.on hbt;cases hl:listed.getD ed.on false with
     |true=>rfl
     | false=>
      have hin:=(hmem ed.on).2 ⟨hlt,by rw[hgd _ hlt];exact hl⟩;simp only[Qm]at hin;rcases hin with hin|hin
      ·rw[hin]at hbt;rw[hself r0 hr0.1]at hbt;cases hbt
      ·have:=(List.pairwise_cons.1 hpw).1 ed.on hin
       rw[this.1]at hbt;cases hbt
    rw[hemp]at this;simp at this
  ·obtain⟨h0,o,ho,hall⟩:=mem_ready.1 hi;have hlt:i<ops.size:=(QY.1 ho).1;have hin:=(hmem i).2 ⟨hlt,h0⟩;obtain⟨p,q,rfl⟩:=List.append_of_mem hin;have hnd':=hnd;rw[List.nodup_append]at hnd';have hni:i ∉ p++q:=by
    intro hm;rw[Qp]at hm;rcases hm with hm|hm
    ·exact hnd'.2.2 i hm i (by simp) rfl
    ·exact (SA.1 hnd'.2.1).1 hm
   have hclo:=BV (ops:=ops) (listed:=fun j=>listed.getD j false=true) (fun j o ho hj ed hed hb=>hcl j o ho hj ed hed hb) i o ho (fun ed hed hb=>hall ed (by simpa using hed) hb);have hfront:∀x∈p,nQ cx ops x i=true/\x≠i:=by
    intro x hx;have hpr:=(List.pairwise_append.1 hpw).2.2 x hx i (by simp);refine⟨?_,fun hxi=>hni (by rw[<- hxi];simp[hx])⟩;rcases hpr.2 with h1|h1
    ·have hxl:=hclo x h1;have hxr:=(hmem x).1 (by simp[hx]);rw[hgd x hxr.1]at hxr;rw[hxr.2]at hxl;cases hxl
    ·exact h1
   have hRE:=Kd (base:=base) hI hS q p hfront e h;have hr':bF cx base ops (i:: (p++q)) e h≠.fail:=by
    intro hf;rw[hf]at hRE;cases hx:bF cx base ops (p++i:: q) e h with
    |fail=>exact hr hx
    |ok e0 h0=>rw[hx]at hRE;obtain⟨_,h1,_⟩:=hRE;cases h1
    |pan v h0=>rw[hx]at hRE;cases hRE
   simp only[bF,af]at hr';have hstep:∀ {r:R Env},bF cx base ops (i:: (p++q)) e h=r->bF cx base ops (i:: (p++q)) e h=r:=fun h=>h;simp only[bF,af]at hRE;refine sD hT hC hO (hdis i hin) H (fun hf=>by rw[hf]at hr';exact hr' rfl) (fun e1 h1 a1 w1 hst hs hdf=>?_) (fun pv h1 v w1 hst hps=>?_)
   ·rw [hst]at hr' hRE;simp only at hr' hRE;refine wI hT hC hI hO hS hbit hself n (p++q) (listed.setIfInBounds i true) (i:: D) e1 h1 a1 w1 ?_ (by simp[hsz]) ?_ (fun k=>?_) (fun k hk=>?_) (fun k hk=>?_) (fun k o' ho' hk ed hed hb=>?_) ?_ hs hr' (fun e0 e' h' a' w' hok heq hsat hdf'=>?_) (fun pv h' v w' a' hok hps hdf'=>?_)
    ·simp only[P0,P4]at hlen |-;omega
    ·exact hnd.sublist (List.Sublist.append (List.Sublist.refl p) (List.sublist_cons_self i q))
    ·have hset:k≠i->(listed.setIfInBounds i true).getD k true=listed.getD k true:=fun hk=>by
      rw[Qz,Qz,RS (SB hk)]
     constructor
     ·intro hk;have hki:k≠i:=fun h=>hni (h▸hk);rw[hset hki];exact (hmem k).1 (by
       simp only[Qp,Qm]at hk |-;rcases hk with hk|hk
       ·exact .inl hk
       ·exact .inr (.inr hk))
     ·rintro⟨h1,h2⟩;have hki:k≠i:=by
       rintro rfl;rw[Qz,Array.getElem?_setIfInBounds_self]at h2;rw[PS (by omega)]at h2;simp at h2
      rw[hset hki]at h2
      have:=(hmem k).2 ⟨h1,h2⟩
      simp only[Qp,Qm]at this |-;rcases this with h|h|h
      ·exact .inl h
      ·exact absurd h hki
      ·exact .inr h
    ·simp only[Qm,not_or];refine⟨fun hki=>hni (hki▸hk),hdis k ?_⟩;simp only[Qp,Qm]at hk |-;rcases hk with hk|hk
     ·exact .inl hk
     ·exact .inr (.inr hk)
    ·simp only[Qm]at hk;rcases hk with rfl|hk
     ·exact hlt
     ·exact hD k hk
    ·have hmono:∀x,listed.getD x false=true->(listed.setIfInBounds i true).getD x false=true:=fun x hx=>getD_set_true hx;by_cases hki:k=i
     ·subst hki;rw[ho]at ho';cases ho';exact hmono _ (hall ed (by simpa using hed) hb)
     ·refine hmono _ (hcl k o' ho' ?_ ed hed hb);rw[Qz,RS (SB hki),<- Qz]at hk;exact hk
    ·exact hpw.sublist (List.Sublist.append (List.Sublist.refl p) (List.sublist_cons_self i q))
    ·rw[hok]at hRE;cases hx:bF cx base ops (p++i:: q) e h with
     |fail=>exact absurd hx hr
     |ok ex hx'=>
      rw[hx]at hRE;obtain⟨e0',h2,h3⟩:=hRE;cases h2;exact hn ex e' _ a' w' hx (h3.trans heq) hsat (hdf'.trans hdf)
     |pan v h0=>rw[hx]at hRE;cases hRE
    ·rw[hok]at hRE;cases hx:bF cx base ops (p++i:: q) e h with
     |fail=>exact absurd hx hr
     |ok ex hx'=>rw[hx]at hRE;obtain⟨_,h1,_⟩:=hRE;cases h1
     |pan v0 h0=>
      rw[hx]at hRE;cases hRE;exact hp _ _ v w' a' hx hps (hdf'.trans hdf)
   ·rw[hst]at hRE;cases hx:bF cx base ops (p++i:: q) e h with
    |fail=>exact absurd hx hr
    |ok ex hx'=>rw[hx]at hRE;obtain⟨_,h1,_⟩:=hRE;cases h1
    |pan v0 h0=>
     rw[hx]at hRE;cases hRE;exact hp _ _ v w1 a hx hps rfl
end
end Go.Av
namespace Go.Av
variable [Dr]
structure IsoCall (cx:Cx):Prop where
 iso:∀f args,cx.iso f=true->∃x:Option (Bool×AV),∀h,cx.call f args h=(match x with|none=>.fail|some (true,v)=>.ok v h|some (false,v)=>.pan v h)
 nw:∀f args,cx.nw f=true->yH (cx.call f args)
omit [Dr]in
theorem IsoCall.draw{cx:Cx}(h:IsoCall cx):IsoPure (fW cx):=by
 refine⟨?_,fun f args hf=>?_⟩
 case refine_2=>
  have hn:=h.nw f args hf;show yH (bif cx.iso f then bX (cx.call f args)else cx.call f args);cases cx.iso f with
  |false=>exact hn
  |true=>
   intro hp v h' hh;simp only[PV,bX]at hh;cases hq:cx.call f args hp with
   |ok a b=>rw[hq]at hh;cases hh;exact hn _ _ _ hq
   |pan a b=>rw[hq]at hh;cases hh
   |fail=>rw[hq]at hh;cases hh
 intro f args hf;have hf':cx.iso f=true:=hf;obtain⟨x,hx⟩:=h.iso f args hf';refine⟨match x with|some (true,v)=>some v|_=>none,?_⟩;show (bif cx.iso f then bX (cx.call f args)else cx.call f args)=_;rw[hf'];funext hp;simp only[PV,bX,hx];rcases x with _|⟨b,v⟩
 ·rfl
 ·cases b<;>rfl
theorem df.draw{P:Program}{cx:Cx}(h:df P cx.own cx.call):df P (fW cx).own (fW cx).call:=by
 intro f args hp S β w vs hr hg hw hh hv;have hcall:(fW cx).call f args hp=(bif cx.iso f then bX (cx.call f args) hp else cx.call f args hp):=by
  show (bif cx.iso f then bX (cx.call f args)else cx.call f args) hp=_;cases cx.iso f<;>rfl
 rw[hcall]at hr |-
 have key:∀r,r=cx.call f args hp->r≠.fail->Calls P f vs.toArray w (eo ((fW cx).own f) S β hp w r)/\(P.funcs[f]?).any (fun fn=>fn.body.isSome&&!(fn.name== "runtime.NumGoroutine"))=true:=by
  intro r hr1 hr2;subst hr1;exact h f args hp S β w vs hr2 hg hw hh hv
 cases hi:cx.iso f with
 |false=>rw[hi]at hr;exact key _ rfl hr
 |true=>
  rw[hi]at hr;simp only[PV,bX]at hr |-;cases hx:cx.call f args hp with
  |ok v hq=>rw[hx]at hr;exact key _ hx.symm (by simp)
  |pan v hq=>rw[hx]at hr;exact absurd rfl hr
  |fail=>rw[hx]at hr;exact absurd rfl hr
def lx(c:Entry)(N:Nat)(e:Env)(h:Hp)(a:Act)(w:World):Prop:=gu c N (fun g=>g<e.nx*1000) e h a w
theorem gu.rel{c:Entry}{N:Nat}{U:Nat->Prop}{e2 e:Env}{h:Hp}{a:Act}{w:World}{ops:Array Oper}(H:gu c N U e h a w)(R:Rel ops [] e2 e):gu c N U e2 h a w:=by
 obtain⟨S,β,γ,lam,ω,F⟩:=H;refine⟨S,β,γ,lam,ω,F.weak (fun t=>?_) (fun t g hg=>?_) (fun g z hz=>by rw[R.al]at hz;exact hz) (fun B n hB=>by rw[R.lb]at hB;exact hB)⟩
 ·rcases R.get t with h|⟨h1,h2,_⟩
  ·exact .inl (by rw[h])
  ·exact .inr ⟨by rw[h1];rfl,h2⟩
 ·rcases R.get t with h|⟨h1,_⟩
  ·rw[h]at hg;exact hg
  ·rw[h1]at hg;cases hg
theorem gu.eqE{c:Entry}{N:Nat}{U:Nat->Prop}{e2 e:Env}{h:Hp}{a:Act}{w:World}(H:gu c N U e h a w)(R:EqE e e2):gu c N U e2 h a w:=by
 obtain⟨S,β,γ,lam,ω,F⟩:=H;exact⟨S,β,γ,lam,ω,F.weak (fun t=>.inl (by rw[R.get])) (fun t g hg=>by rw[R.get]at hg;exact hg) (fun g z hz=>by rw[R.al]at hz;exact hz) (fun B n hB=>by rw[R.lb]at hB;exact hB)⟩
theorem gu.nx{c:Entry}{N:Nat}{U:Nat->Prop}{e:Env}{h:Hp}{a:Act}{w:World}(n:Nat)(H:gu c N U e h a w):gu c N U { e with nx:=n } h a w:=by
 obtain⟨S,β,γ,lam,ω,F⟩:=H;exact⟨S,β,γ,lam,ω,F.weak (fun t=>.inl rfl) (fun t g hg=>hg) (fun g z hz=>hz) (fun B n hB=>hB)⟩
section
variable {P:Program} {cx:Cx} {c:Entry} {e:Env} {h:Hp} {a:Act} {w:World} {ops:Array Oper} {id:Nat}
omit [Dr]in
theorem sU{n:Nat}(hn:n<=1000)(hd:kt n ops=true)(hk:∀p,Cm (da cx.ann.kinds p .L)=true->p<n):OpsOk n cx ops/\Small ops:=by
 unfold kt at hd;rw[Array.all_eq_true_iff_forall_mem]at hd;have h1:∀(i:Nat)(o:Oper),ops[i]? = some o->(∀t,o.dst=some t->t<n)/\∀t∈kg o,t<1000:=by
  intro i o ho
  have:=hd o (Array.mem_of_getElem? ho)
  simp only[PO,P7,PW]at this;refine⟨fun t ht=>?_,this.2⟩;have h2:=this.1;rw[ht]at h2;simpa using h2
 refine⟨⟨fun i o ho=>(h1 i o ho).1,fun i o ho x hx t hxt=>(h1 i o ho).2 t ?_,hk⟩,⟨fun i o ho t ht=>QD ((h1 i o ho).1 t ht) hn,fun i o ho=>(h1 i o ho).2⟩⟩;subst hxt;exact Sk.2 ⟨_,hx,rfl⟩
theorem CV{ρ:Type}(hT:TOK P cx.T)(hC:df P cx.own cx.call)(hI:IsoCall cx)(hk:∀p,Cm (da cx.ann.kinds p .L)=true->p<cx.nt){draw:Bool}{k:Env->M ρ}(H:lx c cx.nt e h a w)(hr:pw cx id ops draw e k h≠.fail){Q:Exit->Act->World->Prop}(hn:∀e' h' a' w',pw cx id ops draw e k h=k e' h'->lx c cx.nt e' h' a' w'->a'.defers=a.defers->Q .normal a' w')(hp:∀pv h' v w' a',pw cx id ops draw e k h= .pan pv h'->mX c pv h' v w'->a'.defers=a.defers->Q (.panic [{ v,recovered:=false }]) a' w'):
  (Code.region id ops draw).wp P Q a w:=by
 have hN:cx.nt<=1000:=by obtain⟨S,β,γ,lam,ω,F⟩:=H;exact F.tsz.2
 have H0:gu c cx.nt (UD e.nx []) e h a w:=H.wider fun g hg=>.inl hg;unfold pw at hr hn hp;cases hds:kt cx.nt ops with
 |false=>rw[hds]at hr;exact absurd rfl hr
 | true=>
  obtain⟨hO,hS⟩:=sU (cx:=cx) hN hds hk;rw[hds]at hr hn hp;simp only[PV]at hr hn hp;cases draw with
  | false=>
   simp only[P3]at hr hn hp;obtain⟨hfl,hgs⟩:=kb ops (List.range ops.size);refine wp_region (un hT hC hO (List.range ops.size) [] e h a w List.nodup_range (by simp) H0 ?_ ?_ ?_)
   all_goals
    have hseq:=ky (cx:=cx) (base:=e.nx) hS (eC ops (List.range ops.size)) e e _ h hgs (.refl ops _ e) hr;rw[hfl]at hseq
   ·rcases hseq with⟨_,_,_,_,h2,_⟩|⟨_,_,_,h2⟩<;>rw[h2]<;>simp
   ·intro e' h' a' w' hok hsat hdf;rcases hseq with⟨e2',e'',h'',h1,h2,hR⟩|⟨_,_,_,h2⟩
    ·rw[h2]at hok;cases hok;refine hn _ _ a' w' h1 (gu.nx _ ((hsat.wider (IQ ?_)).rel hR)) hdf;intro i hi;simpa using hi
    ·rw[h2]at hok;cases hok
   ·intro pv h' v w' a' hok hps hdf;rcases hseq with⟨e2',e'',h'',h1,h2,hR⟩|⟨_,_,h1,h2⟩
    ·rw[h2]at hok;cases hok
    ·rw[h2]at hok;cases hok;exact hp _ _ v w' a' h1 hps hdf
  | true=>
   simp only[PV]at hr hn hp;generalize ug cx id ops.size=ord at hr hn hp;cases hdo:m7 cx ops ord with
   |false=>rw[hdo]at hr;exact absurd rfl hr
   | true=>
    rw[hdo]at hr hn hp;simp only[PV]at hr hn hp;simp only[m7,Gt,PO,P7,PW]at hdo;obtain⟨⟨⟨⟨⟨hlen,hmem⟩,hdist⟩,hlt⟩,hbits⟩,hpairs⟩:=hdo;have hlen':ord.length=ops.size:=Qc hlen;obtain⟨hpw,hself⟩:=pQ (cx:=cx) (ops:=ops) hpairs;have hpw':ord.Pairwise (Do (fW cx) ops):=hpw;have hO':OpsOk cx.nt (fW cx) ops:=⟨hO.dst,hO.src,hO.kin⟩;obtain⟨hfl,hgs⟩:=kb ops ord;have hseq:=ky (cx:=fW cx) (base:=e.nx) hS (eC ops ord) e e _ h hgs (.refl ops _ e) hr;rw[hfl]at hseq;refine wp_region_draw fun t=>?_;have hsch:Region.schedule (P.follows .mixedOrders) ops t=Region.linearise .any ops t:=by
     simp only[Region.schedule,hT.mix,Bool.true_or,PQ]
    rw[hsch];have hmem':∀i,i∈ord↔i<ops.size:=fun i=>⟨fun hi=>hlt i hi,fun hi=>(iO _ _).1 (hmem i (by simpa using hi))⟩;refine wpAny_sound ops.size t _ a _ (wI (cx:=fW cx) (c:=c) (N:=cx.nt) (base:=e.nx) hT hC.draw hI.draw hO' hS ?_ ?_ ops.size ord (Array.replicate ops.size false) [] e h a w.drew hlen' (by simp) (lM hdist) ?_ (by simp) (by simp) ?_ hpw' ?_ ?_ ?_ ?_)
    ·intro i x hx;rcases Qn x ops.size with h'|h'
     ·exact h'
     ·have hm:(lI ops).getD i 0<2 ^ ops.size:=by
       rw[Qw];cases hi:(lI ops)[i]? with
       |none=>simp;exact Nat.pow_pos (by omega)
       |some m=>exact hbits m (QT hi)
      rw[Nat.testBit_lt_two_pow (QD hm (Nat.pow_le_pow_right (by omega) h'))]at hx;cases hx
    ·exact fun i hi=>hself i ((hmem' i).2 hi)
    ·intro i;rw[hmem'];constructor
     ·intro hi;refine⟨hi,?_⟩;rw[Qz,SN,PS hi];rfl
     ·exact fun hi=>hi.1
    ·intro j o ho hj;exfalso;rw[Qz,SN]at hj;split at hj<;>simp at hj
    ·obtain⟨S,β,γ,lam,ω,F⟩:=H0;exact⟨S,β,γ,lam,ω,F.drew⟩
    ·rcases hseq with⟨_,_,_,_,h2,_⟩|⟨_,_,_,h2⟩<;>rw[h2]<;>simp
    ·intro e0 e' h' a' w' hok heq hsat hdf;rcases hseq with⟨e2',e'',h'',h1,h2,hR⟩|⟨_,_,_,h2⟩
     ·rw[h2]at hok;cases hok;exact hn _ _ a' w' h1 (gu.nx _ ((hsat.eqE heq.symm).rel hR)) hdf
     ·rw[h2]at hok;cases hok
    ·intro pv h' v w' a' hok hps hdf;rcases hseq with⟨e2',e'',h'',h1,h2,hR⟩|⟨_,_,h1,h2⟩
     ·rw[h2]at hok;cases hok
     ·rw[h2]at hok;cases hok;exact hp _ _ v w' a' h1 hps hdf
end
end Go.Av
namespace Go.Av
variable [Dr]
omit [Dr]in
theorem kZ{e:Env}:∀(l:List (Nat×Option Nat))(used:List Nat)(vs:List AV),iP e l used=some vs->vs.length=l.length/\
  (∀(i:Nat)(t:Nat)(z:Option Nat),l[i]? = some (t,z)->∃a,vs[i]? = some a/\(e.get t).v= .val a/\∀sz,z=some sz->∃g z0,(e.get t).g=some g/\be e.al g=some z0/\(z0=none\/z0=some sz)/\g ∉ used)/\
  ∀(i j:Nat)(t t' sz sz':Nat),i<j->l[i]? = some (t,some sz)->l[j]? = some (t',some sz')->(e.get t).g≠(e.get t').g
 |[],used,vs,h=>by
  simp only[iP,PN]at h;subst h;exact⟨rfl,by simp,by simp⟩
 | (t,none):: r,used,vs,h=>by
  simp only[iP]at h;split at h
  ·rename_i a ha;split at h
   ·rename_i vs' hvs;simp only[PN]at h;subst h;obtain⟨h1,h2,h3⟩:=kZ r used vs' hvs;refine⟨by simp[h1],fun i t' z hi=>?_,fun i j t1 t2 sz1 sz2 hij hi hj=>?_⟩
    ·cases i with
     |zero=>
      simp only[PU,PN,Q2]at hi;obtain⟨rfl,rfl⟩:=hi;exact⟨a,rfl,ha,fun sz hsz=>by cases hsz⟩
     |succ i=>simpa using h2 i t' z (by simpa using hi)
    ·cases i with
     |zero=>simp at hi
     |succ i=>
      cases j with
      |zero=>omega
      |succ j=>exact h3 i j t1 t2 sz1 sz2 (by omega) (by simpa using hi) (by simpa using hj)
   ·cases h
  ·cases h
 | (t, some sz):: r,used,vs,h=>by
  simp only[iP]at h;split at h
  ·rename_i a g ha hg;split at h
   ·cases h
   ·rename_i z0 hz0;have hcond:vO z0 (some sz)=true/\gA used g=false/\(match iP e r (g:: used)with|some vs=>some (a:: vs)|none=>none)=some vs:=by
     cases hm:gA used g with
     | true=>
      rw[hm]at h;cases z0 with
      |none=>cases h
      |some n=>
       simp only at h;cases hb:Nat.beq n sz<;>rw[hb]at h<;>cases h
     | false=>
      rw[hm]at h;cases z0 with
      |none=>exact⟨rfl,rfl,h⟩
      |some n=>
       simp only at h;cases hb:Nat.beq n sz with
       |true=>rw[hb]at h;exact⟨hb,rfl,h⟩
       |false=>rw[hb]at h;cases h
    obtain⟨hc1,hc2,h⟩:=hcond;have hc:=And.intro hc1 hc2
    ·split at h
     ·rename_i vs' hvs;simp only[PN]at h;subst h;have hgu:g ∉ used:=fun hm=>by
       rw[(iO _ _).2 hm]at hc;exact Bool.noConfusion hc.2
      have hz:z0=none\/z0=some sz:=by
       cases z0 with
       |none=>exact .inl rfl
       |some n=>exact .inr (by rw[Qc hc.1])
      obtain⟨h1,h2,h3⟩:=kZ r (g:: used) vs' hvs;refine⟨by simp[h1],fun i t' z hi=>?_,fun i j t1 t2 sz1 sz2 hij hi hj=>?_⟩
      ·cases i with
       |zero=>
        simp only[PU,PN,Q2]at hi;obtain⟨rfl,rfl⟩:=hi;exact⟨a,rfl,ha,fun sz' hsz=>by cases hsz;exact⟨g,z0,hg,hz0,hz,hgu⟩⟩
       |succ i=>
        obtain⟨a',k1,k2,k3⟩:=h2 i t' z (by simpa using hi);refine⟨a',by simpa using k1,k2,fun sz' hsz=>?_⟩;obtain⟨g',z',m1,m2,m3,m4⟩:=k3 sz' hsz;exact⟨g',z',m1,m2,m3,fun hm=>m4 (by simp[hm])⟩
      ·cases i with
       | zero=>
        cases j with
        |zero=>omega
        |succ j=>
         simp only[PU,PN,Q2]at hi;obtain⟨rfl,_⟩:=hi;obtain⟨a',k1,k2,k3⟩:=h2 j t2 (some sz2) (by simpa using hj);obtain⟨g',z',m1,m2,m3,m4⟩:=k3 sz2 rfl;rw[hg,m1];intro hh;simp only[PN]at hh;exact m4 (by simp[hh])
       |succ i=>
        cases j with
        |zero=>omega
        |succ j=>exact h3 i j t1 t2 sz1 sz2 (by omega) (by simpa using hi) (by simpa using hj)
     ·cases h
  ·cases h
omit [Dr]in
theorem lu(vs:List AV)(r:List (Nat×Ent))(t:Nat):∀(l:List (Nat×Option Nat))(k:Nat),
  (∃(i:Nat)(z:Option Nat),l[i]? = some (t,z)/\cF (dy vs k l++r) t=⟨.val (ae vs (k+i)),z.map fun _=>k+i⟩)\/
  ((∀(i:Nat)(z:Option Nat),l[i]? ≠some (t,z))/\cF (dy vs k l++r) t=cF r t)
 |[],k=>.inr ⟨by simp,rfl⟩
 | (s,z):: l,k=>by
  have hh:dy vs k ((s,z):: l)=(s,⟨.val (ae vs k),z.map fun _=>k⟩):: dy vs (k+1) l:=by cases z<;>rfl
  rw[hh,QC,cY];by_cases hs:s=t
  ·subst hs;rw[PS rfl];exact .inl ⟨0,z,rfl,rfl⟩
  ·rw[if_neg hs];rcases lu vs r t l (k+1)with⟨i,z',h1,h2⟩|⟨h1,h2⟩
   ·refine .inl ⟨i+1,z',by simpa using h1,?_⟩;rw[h2,show k+1+i=k+(i+1) by omega]
   ·refine .inr ⟨fun i z' hi=>?_,h2⟩;cases i with
    |zero=>simp at hi;exact hs hi.1
    |succ i=>exact h1 i z' (by simpa using hi)
omit [Dr]in
theorem iE:∀(l:List (Nat×Option Nat))(k g:Nat)(y:Option Nat),be (kK k l) g=some y->∃(i t sz:Nat),l[i]? = some (t,some sz)/\g=k+i/\y=some sz
 |[],k,g,y,h=>by simp[kK,be]at h
 |(s,none):: l,k,g,y,h=>by
  obtain⟨i,t,sz,h1,h2,h3⟩:=iE l (k+1) g y h;exact⟨i+1,t,sz,by simpa using h1,by omega,h3⟩
 | (s,some n):: l,k,g,y,h=>by
  simp only[kK,cK]at h;split at h
  ·rename_i hk;simp only[PN]at h;exact⟨0,s,n,rfl,by omega,h.symm⟩
  ·obtain⟨i,t,sz,h1,h2,h3⟩:=iE l (k+1) g y h;exact⟨i+1,t,sz,by simpa using h1,by omega,h3⟩
omit [Dr]in
theorem oU(t:Nat):∀(l:List (Nat×Nat×Nat)),(∃B off,(t,B,off)∈l/\cF (l.map fun x=>(x.1,(⟨.loc x.2.1 x.2.2,none⟩:Ent))) t=⟨.loc B off,none⟩)\/cF (l.map fun x=>(x.1,(⟨.loc x.2.1 x.2.2,none⟩:Ent))) t=Ent.none
 |[]=>.inr rfl
 | (s,B,off):: l=>by
  rw[QO,cY];by_cases hs:s=t
  ·subst hs;rw[PS rfl];exact .inl ⟨B,off,by simp,rfl⟩
  ·rw[if_neg hs];rcases oU t l with⟨B',off',h1,h2⟩|h
   ·exact .inl ⟨B',off',by simp[h1],h2⟩
   ·exact .inr h
omit [Dr]in
theorem rP{e:Env}:∀ {l:List (Nat×Nat×Nat)},rO e l=true->∀t B off,(t,B,off)∈l->(e.get t).v= .loc B off
 |[],_,t,B,off,h=>by simp at h
 | (s,B0,off0):: l,h,t,B,off,hm=>by
  simp only[rO,PO]at h;simp only[Qm,Q2]at hm;rcases hm with⟨rfl,rfl,rfl⟩|hm
  ·have h1:=h.1;split at h1
   ·rename_i B' off' hv;simp only[PO]at h1;rw[hv,Qc h1.1,Qc h1.2]
   ·cases h1
  ·exact rP h.2 t B off hm
omit [Dr]in
theorem tV{e:Env}:∀ {l:List (Nat×Nat)},xz e l=true->∀B n,bY l B=some n->bY e.lb B=some n
 |[],_,B,n,h=>by simp[bY]at h
 | (B0,n0):: l,h,B,n,hm=>by
  simp only[xz,PO]at h;rw[e7]at hm;split at hm
  ·rename_i hB;subst hB;simp only[PN]at hm;subst hm;have h1:=h.1;split at h1
   ·rename_i m hv;rw[hv,Qc h1]
   ·cases h1
  ·exact tV h.2 B n hm
section
variable {c:Entry} {N:Nat} {e:Env} {h:Hp} {a:Act} {w:World}
open Classical in
theorem vT{ja:JA}{vs:List AV}(H:lx c N e h a w)(hp:pack ja e=some vs):lx c N (unpack ja vs) h a w:=by
 obtain⟨S,β,γ,lam,ω,F⟩:=H;unfold pack at hp;cases hlo:(rO e ja.locs&&xz e ja.lbs)with
 |false=>rw[hlo]at hp;cases hp
 | true=>
  rw[hlo]at hp;simp only[PV]at hp;simp only[PO]at hlo;obtain⟨hlen,hval,hdis⟩:=kZ ja.vals [] vs hp
  -- the groups carried
  let gOf:Nat->Option Nat:=fun i=>match ja.vals[i]? with|some (t,some _)=>(e.get t).g|_=>none
  have hg1:∀i t sz,ja.vals[i]? = some (t,some sz)->∃g z0,gOf i=some g/\(e.get t).g=some g/\be e.al g=some z0/\(z0=none\/z0=some sz):=by
   intro i t sz hi;obtain⟨a',_,_,h3⟩:=hval i t (some sz) hi;obtain⟨g,z0,k1,k2,k3,_⟩:=h3 sz rfl;refine⟨g,z0,?_,k1,k2,k3⟩;show (match ja.vals[i]? with|some (t,some _)=>(e.get t).g|_=>none)=some g;rw[hi];exact k1
  have hg2:∀i j g,gOf i=some g->gOf j=some g->i=j:=by
   have hex:∀i g,gOf i=some g->∃t sz,ja.vals[i]? = some (t,some sz)/\(e.get t).g=some g:=by
    intro i g hi;have hi':(match ja.vals[i]? with|some (t,some _)=>(e.get t).g|_=>none)=some g:=hi;split at hi'
    ·rename_i t sz ht;exact⟨t,sz,ht,hi'⟩
    ·cases hi'
   intro i j g hi hj;obtain⟨t,sz,k1,k2⟩:=hex i g hi;obtain⟨t',sz',m1,m2⟩:=hex j g hj;rcases Nat.lt_trichotomy i j with hlt|heq|hlt
   ·exact absurd (k2.trans m2.symm) (hdis i j t t' sz sz' hlt k1 m1)
   ·exact heq
   ·exact absurd (m2.trans k2.symm) (hdis j i t' t sz' sz hlt m1 k1)
  let γ':Nat->Value:=fun i=>match gOf i with|some g=>γ g|none=>undef
  let ω':Nat->Owner:=fun b=>match ω b with
   |.grp g=>if hx:∃i,gOf i=some g then .grp (Classical.choose hx)else .no
   |o=>o
  have hωg:∀b g i,ω b= .grp g->gOf i=some g->ω' b= .grp i:=by
   intro b g i hb hi;show (match ω b with|.grp g=>if hx:∃i,gOf i=some g then Owner.grp (Classical.choose hx)else .no|o=>o)= .grp i;rw[hb];simp only;have hx:∃i,gOf i=some g:=⟨i,hi⟩;rw[dif_pos hx,hg2 _ _ g (Sr hx) hi]
  have hωo:∀b,(∀g,ω b≠.grp g)->ω' b=ω b:=by
   intro b hb;show (match ω b with|.grp g=>if hx:∃i,gOf i=some g then Owner.grp (Classical.choose hx)else .no|o=>o)=ω b;cases ho:ω b with
   |grp g=>exact absurd ho (hb g)
   |_=>rfl
  have hωn:∀b,ω' b≠.no->ω b≠.no:=by
   intro b hb ho;refine hb ?_;rw[hωo b (fun g hg=>by rw[ho]at hg;cases hg),ho]
  have hωx:∀b g,ω' b= .grp g->∃g',ω b= .grp g':=by
   intro b g hg;cases ho:ω b with
   |grp g'=>exact⟨g',rfl⟩
   |_=>rw[hωo b (fun g' h'=>by rw[ho]at h';cases h'),ho]at hg;cases hg
  -- the slots
  have hget:∀t,(∃(i:Nat)(z:Option Nat)(a':AV),ja.vals[i]? = some (t,z)/\(e.get t).v= .val a'/\(unpack ja vs).get t=⟨.val a',z.map fun _=>i⟩)\/(∃B off,(e.get t).v= .loc B off/\(unpack ja vs).get t=⟨.loc B off,none⟩)\/(unpack ja vs).get t=Ent.none:=by
   intro t;have hu:(unpack ja vs).get t=cF (dy vs 0 ja.vals++ja.locs.map fun x=>(x.1,(⟨.loc x.2.1 x.2.2,none⟩:Ent))) t:=rfl;rcases lu vs (ja.locs.map fun x=>(x.1,(⟨.loc x.2.1 x.2.2,none⟩:Ent))) t ja.vals 0 with⟨i,z,h1,h2⟩|⟨h1,h2⟩
   ·obtain⟨a',k1,k2,_⟩:=hval i t z h1;refine .inl ⟨i,z,a',h1,k2,?_⟩;rw[hu,h2,Qb];have:ae vs i=a':=by simp[ae,k1]
    rw[this]
   ·rcases oU t ja.locs with⟨B,off,k1,k2⟩|k
    ·exact .inr (.inl ⟨B,off,rP hlo.1 t B off k1,by rw[hu,h2,k2]⟩)
    ·exact .inr (.inr (by rw[hu,h2,k]))
  have hgg:∀t g,((unpack ja vs).get t).g=some g->∃sz,ja.vals[g]? = some (t,some sz):=by
   intro t g hg;rcases hget t with⟨i,z,a',h1,_,h3⟩|⟨_,_,_,h3⟩|h3
   ·rw[h3]at hg;cases z with
    |none=>simp at hg
    |some sz=>simp at hg;subst hg;exact⟨sz,h1⟩
   ·rw[h3]at hg;cases hg
   ·rw[h3]at hg;cases hg
  have hγ:∀t g,((unpack ja vs).get t).g=some g->∃g0 z0,(e.get t).g=some g0/\be e.al g0=some z0/\γ' g=γ g0:=by
   intro t g hg;obtain⟨sz,h1⟩:=hgg t g hg;obtain⟨g0,z0,k1,k2,k3,_⟩:=hg1 g t sz h1;refine⟨g0,z0,k2,k3,?_⟩;show (match gOf g with|some g=>γ g|none=>undef)=γ g0;rw[k1]
  refine⟨S,β,γ',lam,ω',⟨F.wf,F.gro,F.keep,F.le,F.ext,F.hlen,fun l cs hl hcs=>?_,F.tsz,fun t ht=>?_,fun t g z ht hg hz=>?_,fun B n hB=>?_,fun g z hz=>?_,fun b hb=>⟨(F.mine b (hωn b hb)).1.imp (fun hE=>⟨hE.1,fun g hg=>by obtain⟨g',h'⟩:=hωx b g hg;exact hE.2 g' h'⟩) id,(F.mine b (hωn b hb)).2⟩,fun t g hg=>?_,fun g z hz=>?_⟩⟩
  ·rcases F.heap l cs hl hcs with⟨b,x,h1,h2,h3,h4⟩|⟨b,h1,h3,h4⟩
   ·exact .inl ⟨b,x,h1,h2,by rw[hωo b (fun g hg=>by rw[h3]at hg;cases hg)];exact h3,h4⟩
   ·exact .inr ⟨b,h1,by rw[hωo b (fun g hg=>by rw[h3]at hg;cases hg)];exact h3,h4⟩
  ·have hs:=F.slots t ht;rcases hget t with⟨i,z,a',_,h2,h3⟩|⟨B,off,h2,h3⟩|h3
   ·rw[h3];rw[h2]at hs;exact hs
   ·rw[h3];rw[h2]at hs;exact hs
   ·rw[h3];simp[Ent.none,gD,VR]
  ·obtain⟨g0,z0,k1,k2,k3⟩:=hγ t g hg;rw[k3];exact F.grps t g0 z0 ht k1 k2
  ·obtain⟨k1,k2,k3,b,x,k4,k5,k6,k7,k8⟩:=F.lblk B n (tV hlo.2 B n hB);refine⟨k1,k2,k3,b,x,k4,k5,by rw[hωo b (fun g hg=>by rw[k6]at hg;cases hg)];exact k6,k7,fun i hi=>?_⟩;obtain⟨v,a',m1,m2,m3,m4⟩:=k8 i hi;have hgr:∀g z,((unpack ja vs).get (B+i)).g=some g->be (unpack ja vs).al g=some z->v=γ' g:=by
    intro g z hg _;obtain⟨g0,z0,p1,p2,p3⟩:=hγ _ g hg;rw[p3];exact m4 g0 z0 p1 p2
   rcases hget (B+i)with⟨j,z,a2,_,h2,h3⟩|⟨B',off,h2,h3⟩|h3
   ·refine⟨v,a2,m1,by rw[h3],?_,hgr⟩;rw[m2]at h2;cases h2;exact m3
   ·rw[m2]at h2;cases h2
   ·exact⟨v,.any,m1,by rw[h3];rfl,by simp[VR],hgr⟩
  ·obtain⟨i,t,sz,h1,h2,h3⟩:=iE ja.vals 0 g z hz;rw[Qb]at h2;subst h2;obtain⟨g0,z0,k1,k2,k3,k4⟩:=hg1 g t sz h1;have hγ':γ' g=γ g0:=by
    show (match gOf g with|some g=>γ g|none=>undef)=γ g0;rw[k1]
   rw[hγ'];obtain⟨ad,len,cap,m1,m2,m3,m4⟩:=F.free g0 z0 k3;refine⟨ad,len,cap,m1,m2,m3,m4.imp id ?_⟩;rintro⟨sz',b,off,x,p1,p2,p3,p4,p5,p6⟩;have:sz'=sz:=by
    rcases k4 with k4|k4<;>rw[k4]at p1<;>cases p1;rfl
   subst this;exact⟨sz',b,off,x,h3,p2,p3,p4,hωg b g0 g p5 k1,p6⟩
  ·obtain⟨sz,h1⟩:=hgg t g hg;have:g<ja.vals.length:=by
    rcases Qn g ja.vals.length with h|h
    ·exact h
    ·rw[Qh h]at h1;cases h1
   show g<ja.vals.length*1000;omega
  ·obtain⟨i,t,sz,h1,h2,h3⟩:=iE ja.vals 0 g z hz;have:i<ja.vals.length:=by
    rcases Qn i ja.vals.length with h|h
    ·exact h
    ·rw[Qh h]at h1;cases h1
   show g<ja.vals.length*1000;omega
omit [Dr]in
theorem HT(d:Nat)(h:Hp):oO d h .any= .any:=by cases d<;>rfl
omit [Dr]in
theorem Bj(g:AV->AV)(hg:g .any= .any)(vs:List AV)(i:Nat):ae (vs.map g) i=g (ae vs i):=by
 unfold ae;rw[Qw,Qw,Q8];cases vs[i]? with
 |none=>simp[hg]
 |some v=>rfl
structure Reval (g:AV->AV) (x y:Ent):Prop where
 gr:y.g=x.g
 v:(∃a,x.v= .val a/\y.v= .val (g a))\/(∃B off,x.v= .loc B off/\y.v= .loc B off)
omit [Dr]in
theorem iv(g:AV->AV)(hg:g .any= .any)(vs:List AV)(r:List (Nat×Ent))(hr:∀t,Reval g (cF r t) (cF r t))(t:Nat):∀(l:List (Nat×Option Nat))(k:Nat),
  Reval g (cF (dy vs k l++r) t) (cF (dy (vs.map g) k l++r) t)
 |[],k=>by simpa [dy]using hr t
 |(s,none):: l,k=>by
  simp only[dy,QC,cF];cases Nat.beq s t with
  |true=>exact⟨rfl,.inl ⟨_,rfl,by simp only[PV];rw[Bj g hg]⟩⟩
  |false=>exact iv g hg vs r hr t l (k+1)
 |(s,some z):: l,k=>by
  simp only[dy,QC,cF];cases Nat.beq s t with
  |true=>exact⟨rfl,.inl ⟨_,rfl,by simp only[PV];rw[Bj g hg]⟩⟩
  |false=>exact iv g hg vs r hr t l (k+1)
omit [Dr]in
theorem vS(g:AV->AV)(hg:g .any= .any)(ja:JA)(vs:List AV)(t:Nat):Reval g ((unpack ja vs).get t) ((unpack ja (vs.map g)).get t):=by
 refine iv g hg vs _ (fun t=>?_) t ja.vals 0;rcases oU t ja.locs with⟨B,off,_,k2⟩|k
 ·rw[k2];exact⟨rfl,.inr ⟨B,off,rfl,rfl⟩⟩
 ·rw[k];exact⟨rfl,.inl ⟨.any,rfl,by simp[Ent.none,hg]⟩⟩
theorem FR.reval{U:Nat->Prop}{S:aP}{β:List cu}{γ:Nat->Value}{lam:Nat->Option Nat}{ω:Nat->Owner}{e2:Env}{h2:Hp}{S2:aP}{ω2:Nat->Owner}{g:AV->AV}(F:FR c N U e h a w S β γ lam ω)(F2:FR c N U e h2 a w S2 β γ lam ω2)(hg:∀x v,VR S β x v->VR S2 β (g x) v)(hr:∀t,Reval g (e.get t) (e2.get t))(hal:e2.al=e.al)(hlb:e2.lb=e.lb):FR c N U e2 h2 a w S2 β γ lam ω2:=by
 refine⟨F2.wf,F2.gro,F2.keep,F2.le,F2.ext,F2.hlen,F2.heap,F2.tsz,fun t ht=>?_,fun t k z ht hk hz=>?_,fun B n hB=>?_,fun k z hz=>F2.free k z (by rw[<- hal];exact hz),F2.mine,fun t k hk=>?_,fun k z hz=>F2.used.2 k z (by rw[<- hal];exact hz)⟩
 ·have h1:=F.slots t ht;rcases (hr t).v with⟨x,q1,q2⟩|⟨B,off,q1,q2⟩
  ·rw[q1]at h1;rw[q2];exact hg _ _ h1
  ·rw[q1]at h1;rw[q2];exact h1
 ·rw[(hr t).gr]at hk;rw[hal]at hz;exact F2.grps t k z ht hk hz
 ·rw[hlb]at hB;obtain⟨k1,k2,k3,b,x,k4,k5,k6,k7,k8⟩:=F2.lblk B n hB;obtain⟨_,_,_,b',x',j4,j5,j6,j7,j8⟩:=F.lblk B n hB;rw[k4]at j4;cases j4;cases k5.inj j5;refine⟨k1,k2,k3,b,x,k4,k5,k6,k7,fun i hi=>?_⟩;obtain⟨v,a',m1,m2,m3,m4⟩:=k8 i hi;obtain⟨v',a'',n1,n2,n3,_⟩:=j8 i hi;rw[m1]at n1;cases n1;rcases (hr (B+i)).v with⟨y,q1,q2⟩|⟨B',off,q1,q2⟩
  ·rw[n2]at q1;cases q1;refine⟨v,g a'',m1,q2,hg _ _ n3,fun k z hk hz=>?_⟩;rw[(hr (B+i)).gr]at hk;rw[hal]at hz;exact m4 k z hk hz
  ·rw[n2]at q1;cases q1
 ·rw[(hr t).gr]at hk;exact F2.used.1 t k hk
theorem sW{ja:JA}{vs:List AV}(H:lx c N (unpack ja vs) h a w):lx c N (unpack ja (vs.map (oO 6 h))) (h.map fun _=>[]) a w:=by
 obtain⟨S,β,γ,lam,ω,F⟩:=H;obtain⟨S2,ω2,F2,hf⟩:=F.freeze;have F3:=F.reval F2 (g:=oO 6 h) (fun x v hx=>hf _ _ hx) (vS _ (HT 6 h) ja vs) (e2:=unpack ja (vs.map (oO 6 h))) rfl rfl;exact⟨S2,β,γ,lam,ω2,F3⟩
end
end Go.Av
namespace Go.Av
variable [Dr]
section
variable {P:Program} {cx:Cx} {c:Entry} {e:Env} {h:Hp} {a:Act} {w:World} {ops:Array Oper} {id:Nat}
theorem Ab{ρ:Type}(hT:TOK P cx.T)(hC:df P cx.own cx.call)(hI:IsoCall cx)(hk:∀p,Cm (da cx.ann.kinds p .L)=true->p<cx.nt){draw:Bool}{k:Env->M ρ}(H:lx c cx.nt e h a w)(hr:oK cx id ops draw e k h≠.fail){Q:Exit->Act->World->Prop}(hn:∀e' h' a' w',oK cx id ops draw e k h=k e' h'->lx c cx.nt e' h' a' w'->a'.defers=a.defers->Q .normal a' w')(hp:∀pv h' v w' a',oK cx id ops draw e k h= .pan pv h'->mX c pv h' v w'->a'.defers=a.defers->Q (.panic [{ v,recovered:=false }]) a' w'):
  (Code.region id ops draw).wp P Q a w:=CV hT hC hI hk H hr hn hp
end
end Go.Av
namespace Go.Av
variable [Dr]
section
variable {P:Program} {Q:Exit->Act->World->Prop} {b:Code}
def lD(P:Program)(c:Code)(Q:Exit->Act->World->Prop)(a:Act)(w:World):Prop:=
 ∀(b:Frame)(k:List Item)(cs:List Frame),∃e a' w',Q e a' w'/\Arrives P (lone (b.at a (.code c:: .inLoop c:: k)) cs w) b k cs e a' w'
omit [Dr]in
theorem lD.loop{a:Act}{w:World}(h:lD P b Q a w):(Code.loop b).wp P Q a w:=
 fun f k cs=>let ⟨e,a',w',q,r⟩:=h f k cs;⟨e,a',w',q,.of_steps (.one step_loop) r⟩
omit [Dr]in
theorem PI{a:Act}{w:World}(h:b.wp P (Exit.then (lD P b Q) Q) a w):lD P b Q a w:=by
 intro f k cs;obtain⟨e,a₁,w₁,hq,harr⟩:=h f (.inLoop b:: k) cs;cases e with
 |normal=>
  obtain⟨e₂,a₂,w₂,hq₂,harr₂⟩:=hq f k cs;exact⟨e₂,a₂,w₂,hq₂,.of_steps (Steps.trans harr (.one step_inLoop)) harr₂⟩
 |exit id=>exact⟨_,a₁,w₁,hq,.pass (x:=.inLoop b) rfl (fun _ _=>.inl (by simp)) harr⟩
 |goto l=>exact⟨_,a₁,w₁,hq,.pass (x:=.inLoop b) rfl (fun _ _=>.inl (by simp)) harr⟩
 |ret=>exact⟨_,a₁,w₁,hq,.pass (x:=.inLoop b) rfl (fun _ _=>.inl (by simp)) harr⟩
 |panic ch=>exact⟨_,a₁,w₁,hq,.pass (x:=.inLoop b) rfl (fun _ _=>.inl (by simp)) harr⟩
 |outgrown=>exact⟨_,a₁,w₁,hq,.pass (x:=.inLoop b) rfl (fun _ _=>.inl (by simp)) harr⟩
end
section
variable {P:Program} {cx:Cx} {c:Entry} {ρ:Type}
omit [Dr]in
theorem FB{fx:bp ρ}{id:Nat}{code:Code}{e:Env}{kn kr:Env->M ρ}{kx:Nat->Env->M ρ}(hc:∀b,code≠.loop b):
  ev cx fx (.block id code) e kn kx kr=ev cx fx code e kn (fun i e'=>bif Nat.beq i id then kn e' else kx i e') kr:=by
 cases code<;>first|rfl|exact absurd rfl (hc _)
def zE(cx:Cx)(x:Code):Option JA:=match nA x with
 |some t=>pE cx.ann.joins t
 |none=>none
omit [Dr]in
theorem KV{fx:bp ρ}{x y:Code}{e:Env}{kn kr:Env->M ρ}{kx:Nat->Env->M ρ}:ev cx fx (.seq x y) e kn kx kr=(match zE cx x with
  |some ja=>jn (fun vs=>ev cx fx y (unpack ja vs) kn kx kr) fun j=>ev cx fx x e (sJ ja j) kx kr
  |none=>ev cx fx x e (fun e'=>ev cx fx y e' kn kx kr) kx kr):=by
 unfold zE;simp only[ev];cases nA x with
 |none=>rfl
 |some t=>
  simp only;cases pE cx.ann.joins t<;>rfl
structure Posts (c:Entry) (N:Nat) (r:R ρ) (a:Act) (kn:Env->M ρ) (kx:Nat->Env->M ρ) (kr:Env->M ρ) (Q:Exit->Act->World->Prop):Prop where
 nrm:∀e' h' a' w',r=kn e' h'->lx c N e' h' a' w'->a'.defers=a.defers->Q .normal a' w'
 ext:∀i e' h' a' w',r=kx i e' h'->lx c N e' h' a' w'->a'.defers=a.defers->Q (.exit i) a' w'
 ret:∀e' h' a' w',r=kr e' h'->lx c N e' h' a' w'->a'.defers=a.defers->Q .ret a' w'
 pan:∀pv h' v w' a',r= .pan pv h'->mX c pv h' v w'->a'.defers=a.defers->Q (.panic [{ v,recovered:=false }]) a' w'
theorem vQ{ja:JA}{j:List AV->M ρ}{e:Env}{h:Hp}{N:Nat}{a:Act}{w:World}(H:lx c N e h a w)(hr:sJ ja j e h≠.fail):∃vs h',sJ ja j e h=j vs h'/\lx c N (unpack ja vs) h' a w:=by
 unfold sJ at hr |-;cases hp:pack ja e with
 |none=>rw[hp]at hr;exact absurd rfl hr
 |some vs=>
  have hs:=vT H hp;simp only;cases ja.fz with
  |false=>exact⟨vs,h,rfl,hs⟩
  |true=>exact⟨_,_,rfl,sW hs⟩
theorem FD(hT:TOK P cx.T)(hC:df P cx.own cx.call)(hI:IsoCall cx)(hk:∀p,Cm (da cx.ann.kinds p .L)=true->p<cx.nt)(m:Nat):∀(n:Nat)(code:Code),SizeOf.sizeOf code<n->
  ∀(e:Env)(h:Hp)(a:Act)(w:World)(kn:Env->M ρ)(kx:Nat->Env->M ρ)(kr:Env->M ρ)(Q:Exit->Act->World->Prop),lx c cx.nt e h a w->ev cx (dS m) code e kn kx kr h≠.fail->
  Posts c cx.nt (ev cx (dS m) code e kn kx kr h) a kn kx kr Q->code.wp P Q a w:=by
 intro n
 induction n with
 |zero=>intro code hn;omega
 | succ n ih=>
  intro code hn e h a w kn kx kr Q H hr hp;cases code<;>(try exact absurd rfl hr)
  case skip=>exact wp_skip (hp.nrm e h a w rfl H rfl)
  case exit id=>exact wp_exit (hp.ext id e h a w rfl H rfl)
  case ret=>exact wp_ret (hp.ret e h a w rfl H rfl)
  case region id ops draw=>exact Ab hT hC hI hk H hr hp.nrm hp.pan
  case seq x y=>
   have hx:SizeOf.sizeOf x<n:=by simp at hn;omega
   have hy:SizeOf.sizeOf y<n:=by simp at hn;omega
   refine wp_seq ?_;rw[KV]at hr hp;generalize zE cx x=oj at hr hp;cases oj with
   |none=>
    simp only at hr hp;refine ih x hx e h a w _ kx kr _ H hr ⟨fun e' h' a' w' hok hs hd=>?_,fun i e' h' a' w' hok hs hd=>hp.ext i e' h' a' w' hok hs hd,fun e' h' a' w' hok hs hd=>hp.ret e' h' a' w' hok hs hd,fun pv h' v w' a' hok hs hd=>hp.pan pv h' v w' a' hok hs hd⟩;rw[hok]at hr hp;exact ih y hy e' h' a' w' kn kx kr Q hs hr ⟨fun e2 h2 a2 w2 k1 k2 k3=>hp.nrm e2 h2 a2 w2 k1 k2 (k3.trans hd),fun i e2 h2 a2 w2 k1 k2 k3=>hp.ext i e2 h2 a2 w2 k1 k2 (k3.trans hd),fun e2 h2 a2 w2 k1 k2 k3=>hp.ret e2 h2 a2 w2 k1 k2 (k3.trans hd),fun pv h2 v w2 a2 k1 k2 k3=>hp.pan pv h2 v w2 a2 k1 k2 (k3.trans hd)⟩
   |some ja=>
    simp only[jn]at hr hp;refine ih x hx e h a w _ kx kr _ H hr ⟨fun e' h' a' w' hok hs hd=>?_,fun i e' h' a' w' hok hs hd=>hp.ext i e' h' a' w' hok hs hd,fun e' h' a' w' hok hs hd=>hp.ret e' h' a' w' hok hs hd,fun pv h' v w' a' hok hs hd=>hp.pan pv h' v w' a' hok hs hd⟩;rw[hok]at hr hp;obtain⟨vs,h3,hj,hs3⟩:=vQ hs hr;rw[hj]at hr hp;exact ih y hy (unpack ja vs) h3 a' w' kn kx kr Q hs3 hr ⟨fun e2 h2 a2 w2 k1 k2 k3=>hp.nrm e2 h2 a2 w2 k1 k2 (k3.trans hd),fun i e2 h2 a2 w2 k1 k2 k3=>hp.ext i e2 h2 a2 w2 k1 k2 (k3.trans hd),fun e2 h2 a2 w2 k1 k2 k3=>hp.ret e2 h2 a2 w2 k1 k2 (k3.trans hd),fun pv h2 v w2 a2 k1 k2 k3=>hp.pan pv h2 v w2 a2 k1 k2 (k3.trans hd)⟩
  case cond o x y=>
   have hx:SizeOf.sizeOf x<n:=by simp at hn;omega
   have hy:SizeOf.sizeOf y<n:=by simp at hn;omega
   cases o<;>(try exact absurd rfl hr)
   case const v=>
    simp only[ev]at hr hp
    have hav:∀b,cA v= .bool b->a.eval (.const v)= .bool b:=by
     intro b hb;show v= .bool b;cases v with
     |bool c=>simp only[cA,AK,AV.bool.injEq]at hb;rw[hb]
     |tuple vs=>simp only[cA]at hb;cases hvs:vs.isEmpty<;>rw[hvs]at hb<;>cases hb
     |pointer p=>cases p<;>(simp only[cA,AK]at hb;cases hb)
     |map p=>cases p<;>(simp only[cA,AK]at hb;cases hb)
     | slice p n m=>
      have hs:AK (.slice p n m)= .sl []\/AK (.slice p n m)= .any:=by
       cases p with
       |some q=>exact .inr rfl
       | none=>cases n with
        |succ n=>exact .inr rfl
        |zero=>cases m with
         |succ m=>exact .inr rfl
         |zero=>exact .inl rfl
      simp only[cA]at hb;rcases hs with hs|hs<;>rw[hs]at hb<;>cases hb
     |_=>simp only[cA,AK]at hb;cases hb
    cases hq:cA v<;>rw[hq]at hr hp<;>(try exact absurd rfl hr);rename_i b;cases b with
    |true=>exact wp_cond (hav true hq) (ih x hx e h a w kn kx kr Q H hr hp)
    |false=>exact wp_cond (hav false hq) (ih y hy e h a w kn kx kr Q H hr hp)
   rename_i t;simp only[ev]at hr hp;cases ht:decide (t<1000)with
   |false=>rw[ht]at hr;exact absurd rfl hr
   | true=>
    rw[ht]at hr hp;simp only[PV]at hr hp;have htl:t<1000:=by simpa using ht
    have hav:∀b,e.av t= .bool b->a.eval (.tmp t)= .bool b:=by
     intro b hb;obtain⟨S,β,γ,lam,ω,F⟩:=H;have hs:=F.slots t htl;simp only[Env.av,Ent.av]at hb;cases hv:(e.get t).v with
     |val av=>
      rw[hv]at hs hb;simp only at hb;subst hb;simp only[gD,VR]at hs;exact hs
     |loc B off=>rw[hv]at hb;cases hb
    cases hq:e.av t<;>rw[hq]at hr hp<;>(try exact absurd rfl hr);rename_i b;cases b with
    |true=>exact wp_cond (hav true hq) (ih x hx e h a w kn kx kr Q H hr hp)
    |false=>exact wp_cond (hav false hq) (ih y hy e h a w kn kx kr Q H hr hp)
  case block id code=>
   refine wp_block ?_;by_cases hc:∃b,code= .loop b
   ·obtain⟨b,rfl⟩:=hc;have hb:SizeOf.sizeOf b<n:=by simp at hn;omega
    simp only[ev]at hr hp;cases hja:pE cx.ann.loops id with
    |none=>rw[hja]at hr;exact absurd rfl hr
    | some ja=>
     rw[hja]at hr hp;simp only at hr hp;refine lD.loop ?_;obtain⟨vs,h3,hj,hs3⟩:=vQ H hr;rw[hj]at hr hp;have key:∀(k:Nat)(vs:List AV)(h:Hp)(a1:Act)(w:World),lx c cx.nt (unpack ja vs) h a1 w->a1.defers=a.defers->
       dS k (fun self vs=>ev cx (dS m) b (unpack ja vs) (sJ ja self) (fun i e'=>bif Nat.beq i id then kn e' else kx i e') kr) vs h≠.fail->
       Posts c cx.nt (dS k (fun self vs=>ev cx (dS m) b (unpack ja vs) (sJ ja self) (fun i e'=>bif Nat.beq i id then kn e' else kx i e') kr) vs h) a kn kx kr Q->lD P b (Exit.inBlock id Q) a1 w:=by
      intro k
      induction k with
      |zero=>intro vs h a1 w _ _ hr _;exact absurd rfl hr
      | succ k ihk=>
       intro vs h a1 w hs hd hr hp;simp only[dS]at hr hp;refine PI (ih b hb (unpack ja vs) h a1 w _ _ kr _ hs hr ⟨fun e' h' a' w' hok hs' hd'=>?_,fun i e' h' a' w' hok hs' hd'=>?_,fun e' h' a' w' hok hs' hd'=>hp.ret e' h' a' w' hok hs' (hd'.trans hd),fun pv h' v w' a' hok hs' hd'=>hp.pan pv h' v w' a' hok hs' (hd'.trans hd)⟩)
       ·rw[hok]at hr hp;obtain⟨vs',h4,hj',hs4⟩:=vQ hs' hr;rw[hj']at hr hp;exact ihk vs' h4 a' w' hs4 (hd'.trans hd) hr hp
       ·cases hi:Nat.beq i id with
        |true=>
         rw[hi]at hok
         have:=Qc hi
         subst this;show Exit.inBlock i Q (.exit i) a' w';simp only[Exit.inBlock,PQ];exact hp.nrm e' h' a' w' hok hs' (hd'.trans hd)
        |false=>
         rw[hi]at hok;have hne:i≠id:=fun hh=>by subst hh;simp at hi
         show Exit.inBlock id Q (.exit i) a' w';simp only[Exit.inBlock,if_neg hne];exact hp.ext i e' h' a' w' hok hs' (hd'.trans hd)
     exact key m vs h3 a w hs3 rfl hr hp
   ·have hc':∀b,code≠.loop b:=fun b hb=>hc ⟨b,hb⟩;rw[FB hc']at hr hp;have hs:SizeOf.sizeOf code<n:=by simp at hn;omega
    refine ih code hs e h a w kn _ kr _ H hr ⟨fun e' h' a' w' hok hs' hd'=>hp.nrm e' h' a' w' hok hs' hd',fun i e' h' a' w' hok hs' hd'=>?_,fun e' h' a' w' hok hs' hd'=>hp.ret e' h' a' w' hok hs' hd',fun pv h' v w' a' hok hs' hd'=>hp.pan pv h' v w' a' hok hs' hd'⟩;cases hi:Nat.beq i id with
    |true=>
     rw[hi]at hok
     have:=Qc hi
     subst this;show Exit.inBlock i Q (.exit i) a' w';simp only[Exit.inBlock,PQ];exact hp.nrm e' h' a' w' hok hs' hd'
    |false=>
     rw[hi]at hok;have hne:i≠id:=fun hh=>by subst hh;simp at hi
     show Exit.inBlock id Q (.exit i) a' w';simp only[Exit.inBlock,if_neg hne];exact hp.ext i e' h' a' w' hok hs' hd'
end
end Go.Av
namespace Go.Av
variable [Dr]
omit [Dr]in
theorem qQ:∀(args:List AV)(i t:Nat),cF (wo i args) t=if i<=t/\t<i+args.length then⟨.val (ae args (t-i)),none⟩else Ent.none
 |[],i,t=>by
  simp only[wo,cF,Qr,Qu];rw[if_neg (by omega)]
 | a:: as0,i,t=>by
  simp only[wo,cY,P4];by_cases h:i=t
  ·subst h;rw[PS rfl,PS (by omega)];simp[ae]
  ·rw[if_neg h,qQ as0 (i+1) t];by_cases h2:i+1<=t/\t<i+1+as0.length
   ·rw[PS h2,PS (by omega)];have:t-i=(t-(i+1))+1:=by omega
    simp[ae,this]
   ·rw[if_neg h2,if_neg (by omega)]
section
variable {P:Program} {cx:Cx}
open Classical in
theorem LF{w:World}{S:aP}{β:List cu}{h:Hp}{args:List AV}{vs:List Value}{n:Nat}(hg:qp S β h w)(hw:Wf S w)(hh:cP S β w h)(hv:bQ S β args vs)(hn:args.length<=n)(hn2:n<=1000):
  ∃γ lam ω,FR { w,S,β,E:=cB β h,gok:=hg } n (fun g=>g<(qg args).nx*1000) (qg args) h { tmps:=vs.toArray++Array.replicate (n-vs.toArray.size) undef,defers:=[] } w S β γ lam ω:=by
 obtain⟨hlen,ω0,hr⟩:=hh;have hvl:=hv.length;have hget:∀t,(qg args).get t=if t<args.length then⟨.val (ae args t),none⟩else Ent.none:=fun t=>by
  have:=qQ args 0 t
  simp only[Qy,true_and,Qb,Rq]at this;exact this
 let ω:Nat->Owner:=fun b=>if cB β h b then ω0 b else .no;refine⟨fun _=>undef,fun _=>none,ω,⟨hw,Gro.refl _,fun b _ _=>⟨rfl,fun _=>rfl⟩,aP.le_refl S,gB.refl β,hlen,fun l cs hl hcs=>?_,⟨?_,hn2⟩,fun t ht=>?_,fun t g z ht hg=>?_,fun B m hB=>?_,fun g z hz=>?_,fun b hb=>?_,fun t g hg=>?_,fun g z hz=>?_⟩⟩
 ·have hown:∀b n,β[l]? = some (b,n)->ω0 b= .heap l->ω b= .heap l:=fun b n h1 h3=>by
   show (if cB β h b then ω0 b else .no)=_;rw[PS ⟨l,cs,_,hl,hcs,h1⟩];exact h3
  rcases hr l cs hl hcs with⟨b,x,h1,h2,h3,h4⟩|⟨b,h1,h3,h4⟩
  ·exact .inl ⟨b,x,h1,h2,hown b _ h1 h3,h4⟩
  ·exact .inr ⟨b,h1,hown b _ h1 h3,h4⟩
 ·simp;omega
 ·rw[hget];split
  ·rename_i hlt;have hx:args[t]? = some (ae args t):=by simp[ae,hlt]
   obtain⟨v,h1,h2⟩:=hv.get hx;have:(vs.toArray++Array.replicate (n-vs.toArray.size) undef).getD t undef=v:=by
    rw[Qz,SD (by simp;omega)];simp[h1]
   rw[this];exact h2
  ·simp[Ent.none,gD,VR]
 ·rw[hget]at hg;split at hg<;>cases hg
 ·cases hB
 ·cases hz
 ·have hb':cB β h b:=by
   by_cases ho:cB β h b
   ·exact ho
   ·exact absurd (show ω b= .no from if_neg ho) hb
  obtain⟨l,cs,m,h1,h2,h3⟩:=hb';obtain⟨b',x,k1,k2,k3,_⟩:=hr.own h1 h2;rw[h3]at k1;cases k1;have hω:ω b= .heap l:=by
   show (if cB β h b then ω0 b else .no)=_;rw[PS ⟨l,cs,_,h1,h2,h3⟩];exact k3
  exact⟨.inl ⟨⟨l,cs,_,h1,h2,h3⟩,fun g=>by rw[hω];simp⟩,k2⟩
 ·rw[hget]at hg;split at hg<;>cases hg
 ·cases hz
theorem start{w:World}{S:aP}{β:List cu}{h:Hp}{args:List AV}{vs:List Value}{n:Nat}(hg:qp S β h w)(hw:Wf S w)(hh:cP S β w h)(hv:bQ S β args vs)(hn:args.length<=n)(hn2:n<=1000):
  lx { w,S,β,E:=cB β h,gok:=hg } n (qg args) h { tmps:=vs.toArray++Array.replicate (n-vs.toArray.size) undef,defers:=[] } w:=⟨S,β,LF hg hw hh hv hn hn2⟩
def jm(tmps:Array Value):ResultVar->Sem Value
 |.tmp t=>pure (tmps.getD t undef)
 |.cell p t=>do loadVar t (<- asAddr (tmps.getD p undef))
omit [Dr]in
theorem sq(fn:Func)(tmps:Array Value):results fn tmps=(do let vs <- fn.results.mapM (jm tmps);pure (if h:vs.size=1 then vs[0]else .tuple vs)):=by
 unfold results;congr 1
theorem LD{c:Entry}{N:Nat}{U:Nat->Prop}{e:Env}{h:Hp}{a:Act}{w:World}{S:aP}{β:List cu}{γ:Nat->Value}{lam:Nat->Option Nat}{ω:Nat->Owner}(hT:TOK P cx.T)(F:FR c N U e h a w S β γ lam ω){r:ResultVar}{v:AV}(hr:xZ cx.T e r=some v):∃u,(jm a.tmps r).run P w= .ok u w/\VR S β v u:=by
 cases r with
 | tmp t=>
  simp only[xZ]at hr;cases ht:decide (t<1000)with
  |false=>rw[ht]at hr;cases hr
  | true=>
   rw[ht]at hr;simp only[PV]at hr;have hs:=F.slots t (by simpa using ht);cases hv:(e.get t).v with
   |loc B off=>rw[hv]at hr;cases hr
   |val av=>
    rw[hv]at hr hs;simp only[PN]at hr;subst hr;exact⟨_,by simp only[jm,Sem.run_pure],hs⟩
 | cell p t=>
  simp only[xZ]at hr;cases hp:decide (p<1000)with
  |false=>rw[hp]at hr;cases hr
  | true=>
   rw[hp]at hr;simp only[PV]at hr;have hs:=F.slots p (by simpa using hp);cases hv:(e.get p).v with
   | loc B off=>
    rw[hv]at hr hs;cases ht:cx.T t with
    |none=>rw[ht]at hr;cases hr
    | some ti=>
     rw[ht]at hr;simp only at hr;cases hin:mJ e B off ti.size with
     |false=>rw[hin]at hr;cases hr
     | true=>
      rw[hin]at hr;simp only[PV]at hr;simp only[gD]at hs;obtain⟨b,hlam,hpv⟩:=hs;obtain⟨b',x,m,hm,hle,hlam',hrow,hms,hcells⟩:=F.locals hin;rw[hlam]at hlam';cases hlam';let f:Nat->Value:=fun i=>(x[off+i]?).getD undef;have hf:∀i,i<ti.size->x[off+i]? = some (f i):=fun i hi=>by
       obtain⟨v,_,hv',_⟩:=hcells i hi;show _=some ((x[off+i]?).getD undef);rw[hv'];rfl
      have hload:=pN hT ht hrow f hf;have hexec:∀v,(loadVar t ⟨b,off,none⟩).run P w= .ok v w->(jm a.tmps (.cell p t)).run P w= .ok v w:=fun v hv'=>by
       simp only[jm];rw[hpv];simpa [asAddr]using hv'
      cases hag:ti.agg with
      |true=>
       rw[hag]at hr;simp only[PV,PN]at hr;subst hr;refine⟨_,hexec _ (hload.1 hag),?_⟩;simp only[VR];refine⟨_,rfl,rA ti.size fun i hi=>?_⟩;obtain⟨v,a',g1,g2,g3,_⟩:=hcells i hi;have:f i=v:=by show (x[off+i]?).getD undef=v;rw[g1];rfl
       rw[this];simp only[Env.av,Ent.av,g2];exact g3
      | false=>
       rw[hag]at hr;simp only[P3]at hr;cases hone:decide (ti.size=1)with
       |false=>rw[hone]at hr;cases hr
       |true=>
        rw[hone]at hr;simp only[PV,PN]at hr;subst hr;have hone':ti.size=1:=by simpa using hone
        obtain⟨v,a',g1,g2,g3,g4⟩:=hcells 0 (by omega);simp only[Qu]at g1 g2 g4;have hfv:f 0=v:=by show (x[off+0]?).getD undef=v;rw[Qu,g1];rfl
        refine⟨v,hexec _ (hfv▸hload.2 hag hone'),?_⟩;simp only[Env.av,Ent.av,g2];exact g3
   | val av=>
    rw[hv]at hr hs;cases ht:cx.T t with
    |none=>rw[ht]at hr;cases hr
    |some ti=>
     rw[ht]at hr;simp only at hr;obtain⟨v,h1,h2⟩:=A9 hT F.wf hr hs;refine⟨v,?_,h2⟩;unfold ai at hr;rw[ht]at hr;cases av<;>simp only[reduceCtorEq]at hr;simp only[gD,VR]at hs;obtain⟨b,off,vs,hpv,_,_⟩:=hs;simp only[jm];rw[hpv]at h1 |-;simpa [Instr.loadAt,Instr.sureAddr,asAddr]using h1
theorem Ac{c:Entry}{N:Nat}{U:Nat->Prop}{e:Env}{h:Hp}{a:Act}{w:World}{S:aP}{β:List cu}{γ:Nat->Value}{lam:Nat->Option Nat}{ω:Nat->Owner}(hT:TOK P cx.T)(F:FR c N U e h a w S β γ lam ω){fn:Func}{vs:List AV}(hr:iq cx.T e fn.results.toList=some vs):∃u,(results fn a.tmps).run P w= .ok u w/\VR S β (mU vs) u:=by
 have key:∀(l:List ResultVar)(vs:List AV),iq cx.T e l=some vs->∃us:List Value,(l.mapM (jm a.tmps)).run P w= .ok us w/\bQ S β vs us:=by
  intro l
  induction l with
  |nil=>intro vs h;simp only[iq,PN]at h;subst h;exact⟨[],by simp,by simp[bQ]⟩
  | cons r rs ih=>
   intro vs h;simp only[iq]at h;cases h1:xZ cx.T e r with
   |none=>rw[h1]at h;cases h
   | some v=>
    cases h2:iq cx.T e rs with
    |none=>rw[h1,h2]at h;cases h
    |some vs'=>
     rw[h1,h2]at h;simp only[PN]at h;subst h;obtain⟨u,k1,k2⟩:=LD hT F h1;obtain⟨us,m1,m2⟩:=ih vs' h2;refine⟨u:: us,?_,by simp only[bQ];exact⟨u,us,rfl,k2,m2⟩⟩;rw[List.mapM_cons,Sem.run_bind,k1,Result.andThen_ok,Sem.run_bind,m1,Result.andThen_ok,Sem.run_pure]
 obtain⟨us,k1,k2⟩:=key _ _ hr;have hlen:=k2.length;have hrun:(fn.results.mapM (jm a.tmps)).run P w= .ok us.toArray w:=by
  rw[SJ];rw[map_eq_pure_bind,Sem.run_bind,k1,Result.andThen_ok,Sem.run_pure]
 refine⟨if h:us.toArray.size=1 then us.toArray[0]else .tuple us.toArray,?_,?_⟩
 ·rw[sq,Sem.run_bind,hrun,Result.andThen_ok,Sem.run_pure]
 ·unfold mU;split
  ·rename_i v;cases us with
   |nil=>simp at hlen
   |cons u us=>
    cases us with
    |nil=>simp only[bQ]at k2;obtain⟨x,xs,hx,hy,_⟩:=k2;simp at hx;simp[hx.1,hy]
    |cons u2 us=>simp at hlen
  ·rename_i hne;rw[dif_neg]
   ·simp only[VR];exact⟨us,rfl,k2⟩
   ·intro h1;have:vs.length=1:=by rw[<- hlen];simpa using h1
    match vs,this with
    |[v],_=>exact hne v rfl
end
end Go.Av
namespace Go.Av
variable [Dr]
omit [Dr]in
theorem xx{n:Nat}{ks:List (Nat×Kind)}(h:nT n ks=true):∀p,Cm (da ks p .L)=true->p<n:=by
 intro p hp
 induction ks with
 |nil=>simp[da,Cm]at hp
 | cons x ks ih=>
  obtain⟨k,y⟩:=x;unfold nT at h;simp only[QH,PO]at h;simp only[da]at hp;cases hk:Nat.beq k p with
  |true=>
   rw[hk]at hp;simp only[PV]at hp
   have:=h.1
   rw[hp]at this;have hk':=Qc hk;subst hk';simpa using this
  |false=>
   rw[hk]at hp;exact ih h.2 hp
section
variable {P:Program} {cx:Cx}
theorem Lw{c:Entry}{N:Nat}{U:Nat->Prop}{e:Env}{h:Hp}{a:Act}{w:World}{S:aP}{β:List cu}{γ:Nat->Value}{lam:Nat->Option Nat}{ω:Nat->Owner}(F:FR c N U e h a w S β γ lam ω){fn:Func}{sz:Nat}(ho:vw fn e sz=true){u:Value}(hu:(results fn a.tmps).run P w= .ok u w):uB c.w.heap.size S β w h sz u:=by
 unfold vw at ho;split at ho
 ·rename_i t hres;cases ht:decide (t<1000)with
  |false=>rw[ht]at ho;cases ho
  | true=>
   rw[ht]at ho;simp only[QJ]at ho;split at ho
   ·rename_i g hg;split at ho
    ·rename_i z hz;have hgr:=F.grps t g z (by simpa using ht) hg hz;obtain⟨ad,len,cap,h1,h2,h3,h4⟩:=F.free g z hz;have hue:u=a.tmps.getD t undef:=by
      have hr:fn.results= #[.tmp t]:=by apply RV;simpa using hres
      rw[sq,hr]at hu;simp[jm]at hu;simpa using hu.symm
     rw[hue,hgr];refine⟨ad,len,cap,h1,h2,h3,h4.imp id ?_⟩;rintro⟨sz',b,off,x,k1,k2,k3,k4,k5,k6⟩;have hsz:sz'=sz:=by
      rw[k1]at ho;simp only[vO]at ho;exact Qc ho
     subst hsz;refine⟨b,off,x,k2,k3,k4,(F.mine b (by rw[k5];simp)).1.grp k5,fun hb=>?_,k6⟩;obtain⟨l,_,hl,_⟩:=F.hown hb;rw[k5]at hl;cases hl
    ·cases ho
   ·cases ho
 ·cases ho
omit [Dr]in
theorem GH{fn:Func}{own:Option Nat}{e:Env}{h:Hp}(hr:kI cx fn own e h≠.fail):∃rs,iq cx.T e fn.results.toList=some rs/\(kI cx fn own e h= .ok (mU rs) h\/(own=none/\kI cx fn own e h= .ok (oO 6 h (mU rs)) (h.map fun _=>[])))/\∀sz,own=some sz->vw fn e sz=true:=by
 have key:∀b z:Bool,(bif b then af (ah ((iq cx.T e fn.results.toList).map mU)) (bif z then(bif own.isSome then fun _=>f7 else Hf)else ay)else f7:M AV) h≠.fail->b=true/\∃rs,iq cx.T e fn.results.toList=some rs/\
   ((bif b then af (ah ((iq cx.T e fn.results.toList).map mU)) (bif z then(bif own.isSome then fun _=>f7 else Hf)else ay)else f7:M AV) h= .ok (mU rs) h\/
    (own=none/\(bif b then af (ah ((iq cx.T e fn.results.toList).map mU)) (bif z then(bif own.isSome then fun _=>f7 else Hf)else ay)else f7:M AV) h= .ok (oO 6 h (mU rs)) (h.map fun _=>[]))):=by
  intro b z hr;cases b with
  |false=>exact absurd rfl hr
  | true=>
   refine⟨rfl,?_⟩;cases hres:iq cx.T e fn.results.toList with
   |none=>rw[hres]at hr;exact absurd rfl hr
   | some rs=>
    rw[hres]at hr;cases z with
    |false=>exact⟨rs,rfl,.inl rfl⟩
    |true=>
     cases own with
     |none=>exact⟨rs,rfl,.inr ⟨rfl,rfl⟩⟩
     |some sz=>exact absurd rfl hr
 unfold kI at hr |-;cases own with
 |none=>
  obtain⟨_,rs,h1,h2⟩:=key true _ hr;exact⟨rs,h1,h2,fun sz hsz=>by cases hsz⟩
 |some sz=>
  obtain⟨h0,rs,h1,h2⟩:=key _ _ hr;exact⟨rs,h1,h2,fun sz' hsz=>by cases hsz;exact h0⟩
theorem jy(hT:TOK P cx.T)(hC:df P cx.own cx.call)(hI:IsoCall cx)(m:Nat){f:FuncId}{fn:Func}(hf:P.funcs[f]? = some fn)(hnt:cx.nt=fn.ntmps){own:Option Nat}{args:List AV}{h:Hp}{S:aP}{β:List cu}{w:World}{vs:List Value}(hr:dD cx (dS m) fn own args h≠.fail)(hg:qp S β h w)(hw:Wf S w)(hh:cP S β w h)(hv:bQ S β args vs):Calls P f vs.toArray w (eo own S β h w (dD cx (dS m) fn own args h))/\fn.body.isSome=true:=by
 unfold dD at hr |-;cases hb:fn.body with
 |none=>rw[hb]at hr;exact absurd rfl hr
 | some code=>
  rw[hb]at hr;simp only at hr |-;refine⟨?_,rfl⟩;cases hc:(decide (args.length<=fn.ntmps)&&decide (fn.ntmps<=1000)&&nT cx.nt cx.ann.kinds)with
  |false=>rw[hc]at hr;exact absurd rfl hr
  | true=>
   rw[hc]at hr;simp only[PV]at hr |-;simp only[PO,PW]at hc;obtain⟨⟨hc1,hc2⟩,hc3⟩:=hc;have H:lx { w,S,β,E:=cB β h,gok:=hg } cx.nt (qg args) h { tmps:=vs.toArray++Array.replicate (fn.ntmps-vs.toArray.size) undef,defers:=[] } w:=by
    rw[hnt];exact start hg hw hh hv hc1 hc2
   have hret:∀(e':Env)(h':Hp)(a':Act)(w':World),ev cx (dS m) code (qg args) (kI cx fn own) (fun _ _=>f7) (kI cx fn own) h=kI cx fn own e' h'->
     lx { w,S,β,E:=cB β h,gok:=hg } cx.nt e' h' a' w'->∃v,(results fn a'.tmps).run P w'= .ok v w'/\eo own S β h w (ev cx (dS m) code (qg args) (kI cx fn own) (fun _ _=>f7) (kI cx fn own) h) (.returned v) w':=by
    intro e' h' a' w' hok hs;rw[hok]at hr |-;obtain⟨rs,hres,hret,hown⟩:=GH hr;obtain⟨S',β',γ,lam,ω,F⟩:=hs;obtain⟨u,hu1,hu2⟩:=Ac (P:=P) hT F hres;rcases hret with hret|⟨rfl,hret⟩
    ·rw[hret];exact⟨u,hu1,S',β',u,rfl,hu2,F.out,fun sz hsz=>Lw F (hown sz hsz) hu1⟩
    ·rw[hret];obtain⟨S2,ω2,F2,hf⟩:=F.freeze;exact⟨u,hu1,S2,β',u,rfl,hf _ _ hu2,F2.out,fun sz hsz=>by cases hsz⟩
   refine calls_of_wp hf hb (FD hT hC hI (xx hc3) m _ code (SO _) (qg args) h _ w _ _ _ _ H hr ⟨fun e' h' a' w' hok hs hd=>?_,fun i e' h' a' w' hok hs hd=>?_,fun e' h' a' w' hok hs hd=>?_,fun pv h' v w' a' hok hs hd=>?_⟩)
   ·exact⟨hd,hret e' h' a' w' hok hs⟩
   ·rw[hok]at hr;exact absurd rfl hr
   ·exact⟨hd,hret e' h' a' w' hok hs⟩
   ·refine⟨hd,?_⟩;rw[hok];obtain⟨S',β',hout,hvr⟩:=hs;exact⟨S',β',v,rfl,hvr,hout⟩
end
open Classical in
theorem A3{S:aP}{β:List cu}{w w':World}{h:Hp}(_hw:Wf S w)(hh:cP S β w h){β0:List cu}{h0:Hp}(hE:∀b,¬cB β0 h0 b){S':aP}{β':List cu}{h':Hp}(L:Left (cB β0 h0) S β0 w S' β' w' h'):∃S2,Left (cB β h) S β w S2 β w' h/\(∀a v,VR S' β' a v->VR S2 β (oO 6 h' a) v)/\∀sz v,uB w.heap.size S' β' w' h' sz v->uB w.heap.size S2 β w' h sz v:=by
 obtain⟨hlen,ω,hH⟩:=L.heap;have hnew:∀b,cB β' h' b->w.heap.size<=b:=fun b hb=>(L.owned b hb).resolve_left (hE b);let S2:aP:=fun b o=>if cB β' h' b then w'.cell? ⟨b,o,none⟩else S' b o;have hS2n:∀b,¬cB β' h' b->∀o,S2 b o=S' b o:=fun b hb o=>if_neg hb;have hS2y:∀b,cB β' h' b->∀o,S2 b o=w'.cell? ⟨b,o,none⟩:=fun b hb o=>PS hb;have hle:S'.le S2:=by
  intro b o v hv;by_cases hb:cB β' h' b
  ·obtain⟨l,cs,n,h1,h2,h3⟩:=hb;obtain⟨b',x,k1,k2,k3,k5⟩:=hH.own h1 h2;rw[h3]at k1;cases k1;rw[k5]at hv;cases hv
  ·rw[hS2n b hb];exact hv
 have hrow:∀b,b<w.heap.size->w'.heap[b]? = w.heap[b]? /\∀o,S2 b o=S b o:=by
  intro b hb;have hk:=L.keep b hb (hE b);refine⟨hk.1,fun o=>?_⟩;rw[hS2n b (fun ho=>by have:=hnew b ho;omega)];exact hk.2 o
 have hwf:Wf S2 w':=by
  intro b o v hv;by_cases hb:cB β' h' b
  ·rw[hS2y b hb]at hv;exact hv
  ·rw[hS2n b hb]at hv;exact L.wf b o v hv
 obtain⟨hlen0,ω0,hH0⟩:=hh;have hlt0:∀b,cB β h b->b<w.heap.size:=by
  rintro b ⟨l,cs,n,h1,h2,h3⟩;obtain⟨b',x,k1,k2,_⟩:=hH0.own h1 h2;rw[h3]at k1;cases k1;exact k2
 have hle0:S.le S2:=aP.le_trans L.le hle;refine⟨S2,⟨hle0,gB.refl β,hwf,L.gro,fun b hb _=>hrow b hb,⟨hlen0,ω0,hH0.rows hle0 (gB.refl β) hlen0 fun l cs hl _=>.inl ⟨hl,fun b hb ho=>⟨ho,(hrow b hb).1,fun o h=>by rw[(hrow b hb).2];exact h⟩⟩⟩,fun b hb=>.inl hb⟩,fun a v hv=>uY hH hle (fun b o x hb hr=>?_) 6 a v hv,fun sz v=>?_⟩
 ·rw[hS2y b hb,hr.cell]
 ·rintro⟨ad,len,cap,k1,k2,k3,k4⟩;refine⟨ad,len,cap,k1,k2,k3,k4.imp id ?_⟩;rintro⟨b,off,x,p1,p2,p3,p4,p5,p6⟩;refine⟨b,off,x,p1,p2,p3,p4,fun hb=>?_,fun o ho=>by rw[hS2n b p5];exact p6 o ho⟩
  have:=hlt0 b hb
  omega
theorem xt{S:aP}{β:List cu}{w w':World}{h:Hp}{own:Option Nat}{m:List AV->M AV}{args:List AV}{en:Ending}(hw:Wf S w)(hh:cP S β w h)(hp:eo own S [] [] w (m (eM aB args) []) en w'):eo own S β h w (iW m args h) en w':=by
 have key:=fun{S':aP} {β':List cu} {h':Hp} (L:Left (cB [] []) S [] w S' β' w' h')=>A3 hw hh (by rintro b ⟨l,cs,n,h1,_⟩;simp at h1) L;unfold iW;cases hm:m (eM aB args) []with
 |fail=>rw[hm]at hp;exact hp.elim
 |ok r h'=>
  rw[hm]at hp;obtain⟨S',β',v,h1,h2,h3,h4⟩:=hp;obtain⟨S2,k1,k2,k3⟩:=key h3;exact⟨S2,β,v,h1,k2 r v h2,k1,fun sz hsz=>k3 sz v (h4 sz hsz)⟩
 |pan r h'=>
  rw[hm]at hp;obtain⟨S',β',v,h1,h2,h3⟩:=hp;obtain⟨S2,k1,k2,k3⟩:=key h3;exact⟨S2,β,v,h1,k2 r v h2,k1⟩
structure GoodPg (P:Program) (p:Pg):Prop where
 tok:TOK P p.T
 funcs:∀f fn a,p.funcs f=some (fn,a)->P.funcs[f]? = some fn/\(fn.name== "runtime.NumGoroutine")=false
 other:∀f E,p.other f=some E->∀call,df P p.own call->∀(args:List AV)(h:Hp)(S:aP)(β:List cu)(w:World)(vs:List Value),E call args h≠.fail->qp S β h w->Wf S w->cP S β w h->bQ S β args vs->
  Calls P f vs.toArray w (eo (p.own f) S β h w (E call args h))/\(P.funcs[f]?).any (fun fn=>fn.body.isSome&&!(fn.name== "runtime.NumGoroutine"))=true
 nw:∀f,p.nw f=true->∃E,p.other f=some E/\∀call args,yH (E call args)
omit [Dr]in
theorem cP.nil{S:aP}{w:World}:cP S [] w []:=⟨rfl,fun _=>.no,fun l cs hl=>by simp at hl⟩
theorem wO{P:Program}{p:Pg}(G:GoodPg P p)(m:Nat){call:FuncId->List AV->M AV}(hC:df P p.own call)(hI:∀n a,IsoCall (p.cx call n a)):df P p.own (jX p call (dS m)):=by
 intro f args h S β w vs hr hg hw hh hv;unfold jX at hr |-;cases ho:p.other f with
 |some E=>rw[ho]at hr;exact G.other f E ho call hC args h S β w vs hr hg hw hh hv
 | none=>
  rw[ho]at hr;simp only at hr |-;cases hf:p.funcs f with
  |none=>rw[hf]at hr;exact absurd rfl hr
  | some x=>
   obtain⟨fn,a⟩:=x;rw[hf]at hr;simp only at hr |-;obtain⟨hf1,hf2⟩:=G.funcs f fn a hf
   have hany:fn.body.isSome=true->(P.funcs[f]?).any (fun fn=>fn.body.isSome&&!(fn.name== "runtime.NumGoroutine"))=true:=by
    intro hb;rw[hf1];simp only[Option.any_some,hb,hf2,Qd,Ry]
   cases hi:a.iso with
   |false=>
    rw[hi]at hr;simp only[P3]at hr |-;obtain⟨h1,h2⟩:=jy (cx:=p.cx call fn.ntmps a) G.tok hC (hI _ _) m hf1 rfl hr hg hw hh hv;exact⟨h1,hany h2⟩
   | true=>
    rw[hi]at hr;simp only[PV]at hr |-;have hr':dD (p.cx call fn.ntmps a) (dS m) fn (p.own f) (eM aB args) []≠.fail:=by
     intro hf;unfold iW at hr;rw[hf]at hr;exact hr rfl
    obtain⟨h1,h2⟩:=jy (cx:=p.cx call fn.ntmps a) G.tok hC (hI _ _) m hf1 rfl hr' ⟨hg.1,fun b _ hb=>by obtain⟨l,_,_,h1,_⟩:=hb;simp at h1,hg.2.2⟩ hw cP.nil (wC hv);exact⟨h1.mono fun en w' hp=>xt hw hh hp,hany h2⟩
omit [Dr]in
theorem zk(p:Pg)(hN:∀f,p.nw f=true->∃E,p.other f=some E/\∀call args,yH (E call args)):∀n k a,IsoCall (p.cx (ej p n) k a)
 |0,k,a=>⟨fun f args _=>⟨none,fun _=>rfl⟩,fun f args _ h v h' hh=>by cases hh⟩
 | n+1,k,a=>by
  refine⟨?_,fun f args hf=>?_⟩
  case refine_2=>
   obtain⟨E,hE,hn⟩:=hN f hf;have:(p.cx (ej p (n+1)) k a).call f args=E (ej p n) args:=by
    show jX p (ej p n) (dS n) f args=_;unfold jX;rw[hE]
   rw[this];exact hn _ _
  intro f args hi;have hi':p.iso f=true:=hi;unfold Pg.iso at hi';cases ho:p.other f with
  |some E=>rw[ho]at hi';cases hi'
  | none=>
   rw[ho]at hi';simp only at hi';cases hf:p.funcs f with
   |none=>rw[hf]at hi';cases hi'
   |some x=>
    obtain⟨fn,b⟩:=x;rw[hf]at hi';simp only at hi';refine⟨match dD (p.cx (ej p n) fn.ntmps b) (dS n) fn (p.own f) (eM aB args) []with|.ok r h'=>some (true,oO 6 h' r)|.pan v h'=>some (false,oO 6 h' v)|.fail=>none,fun h=>?_⟩;show jX p (ej p n) (dS n) f args h=_;unfold jX;rw[ho];simp only;rw[hf];simp only[hi',PV,iW];cases dD (p.cx (ej p n) fn.ntmps b) (dS n) fn (p.own f) (eM aB args) []<;>rfl
theorem nH{P:Program}{p:Pg}(G:GoodPg P p):∀n,df P p.own (ej p n)
 |0=>fun _f _args _h _S _β _w _vs hr=>absurd rfl hr
 |n+1=>wO G n (nH G n) fun k a=>zk p G.nw n k a
end Go.Av
namespace Go.Av
def FY{m:List AV->M AV}{ms:Nat->List AV->M AV}(h:bG m ms)(args:List AV):dL (iW m args) fun n=>iW (ms n) args:=by
 intro x;obtain⟨h1,h2⟩:=h (eM aB args) []
 (try dsimp only at h1 h2)
 refine⟨fun hne=>?_,fun n hne=>?_⟩
 ·have hne':m (eM aB args) []≠.fail:=fun hf=>hne (by simp only[iW,hf]);obtain⟨N,hN⟩:=h1 hne';refine⟨N,fun n hn=>?_⟩
  (try dsimp only)
  simp only[iW,hN n hn]
 ·(try dsimp only at hne |-)
  have hne':ms n (eM aB args) []≠.fail:=fun hf=>hne (by simp only[iW,hf]);simp only[iW,h2 n hne']
def fj(p:Pg):Prop:=∀f E,p.other f=some E->∀(call:FuncId->List AV->M AV)(calls:Nat->FuncId->List AV->M AV),(∀f,bG (call f) fun n=>calls n f)->bG (E call) fun n=>E (calls n)
section
variable {cx:Cx} {call:FuncId->List AV->M AV} {calls:Nat->FuncId->List AV->M AV} {fx:bp AV} {fxs:Nat->bp AV}
theorem zj(hc:∀f,bG (call f) fun n=>calls n f)(hfx:oD fx fxs)(hfc:vY fx)(hfcs:∀n,vY (fxs n))(fn:Func)(own:Option Nat):
  bG (dD (cx.wc call) fx fn own) fun n=>dD (cx.wc (calls n)) (fxs n) fn own:=by
 intro args;unfold dD;cases fn.body with
 |none=>exact ba _
 | some c=>
  have key:∀b:Bool,dL (bif b then ev (cx.wc call) fx c (qg args) (kI (cx.wc call) fn own) (fun _ _=>f7) (kI (cx.wc call) fn own)else f7) fun n=>(bif b then ev (cx.wc (calls n)) (fxs n) c (qg args) (kI (cx.wc (calls n)) fn own) (fun _ _=>f7) (kI (cx.wc (calls n)) fn own)else f7):=by
   intro b;cases b with
   |false=>exact ba _
   |true=>
    have hr:bG (kI (cx.wc call) fn own) fun n=>kI (cx.wc (calls n)) fn own:=bG.const (kI cx fn own);exact KU _ c (SO _) call calls fx fxs hc hfx hfc hfcs (qg args) _ (fun n=>kI (cx.wc (calls n)) fn own) _ (fun _ _ _=>f7) _ (fun n=>kI (cx.wc (calls n)) fn own) hr (fun i=>bG.const _) hr
  exact key (decide (args.length<=fn.ntmps)&&decide (fn.ntmps<=1000)&&nT cx.nt cx.ann.kinds)
theorem tz{p:Pg}(hO:fj p)(hc:∀f,bG (call f) fun n=>calls n f)(hfx:oD fx fxs)(hfc:vY fx)(hfcs:∀n,vY (fxs n))(f:FuncId):bG (jX p call fx f) fun n=>jX p (calls n) (fxs n) f:=by
 intro args;unfold jX;cases ho:p.other f with
 |some E=>exact hO f E ho call calls hc args
 | none=>
  simp only;cases p.funcs f with
  |none=>exact ba _
  |some x=>
   obtain⟨fn,a⟩:=x;simp only;have hb:=zj (cx:=p.cx call fn.ntmps a) hc hfx hfc hfcs fn (p.own f);cases a.iso with
   |true=>exact FY hb args
   |false=>exact hb args
end
theorem pu{p:Pg}(hO:fj p):∀n f args,yC (ej p n f args) (ej p (n+1) f args)
 |0,f,args=>fun x hne=>absurd rfl hne
 | n+1,f,args=>by
  have hc:∀f,bG (ej p (n+1) f) fun m=>(if m=0 then ej p n else ej p (n+1)) f:=by
   intro f args x;refine⟨fun _=>⟨1,fun m hm=>?_⟩,fun m hne=>?_⟩
   ·(try dsimp only)
    rw[if_neg (by omega)]
   ·(try dsimp only at hne |-)
    by_cases h0:m=0
    ·rw[PS h0]at hne |-;exact pu hO n f args x hne
    ·rw[if_neg h0]
  have h:=tz hO hc (wW n) (uV (n+1)) (fun m=>by
   by_cases h0:m=0
   ·rw[PS h0];exact uV n
   ·rw[if_neg h0];exact uV (n+1)) f args
  intro x hne
  have:=(h x).2 0
  (try dsimp only at this)
  rw[PS rfl,PS rfl]at this;exact this hne
def uR{p:Pg}(hO:fj p){n m:Nat}(h:n<=m)(f:FuncId)(args:List AV):yC (ej p n f args) (ej p m f args):=by
 induction m with
 | zero => have:n=0:=by omega
           subst this;exact .refl _
 |succ m ih=>
  by_cases hn:n=m+1
  ·subst hn;exact .refl _
  ·exact (ih (by omega)).trans (pu hO m f args)
open Classical in
noncomputable def aj(p:Pg)(f:FuncId)(args:List AV):M AV:=fun h=>if hx:∃n,ej p n f args h≠.fail then ej p (Classical.choose hx) f args h else .fail
def mm{p:Pg}(hO:fj p)(f:FuncId):bG (aj p f) fun n=>ej p n f:=by
 intro args h;refine tr (fun n m hnm hne=>uR hO hnm f args h hne) ?_;unfold aj;by_cases hx:∃n,ej p n f args h≠.fail
 ·left;simp only[dif_pos hx];exact⟨_,Sr hx,rfl⟩
 ·right;simp only[dif_neg hx];exact⟨fun n=>Ru fun h=>hx ⟨n,h⟩,trivial⟩
def qJ.uniq{α:Type}{a a':R α}{b:Nat->R α}(h:qJ a b)(g:qJ a' fun n=>b (n+1)):a=a':=by
 by_cases ha:a= .fail
 ·by_cases ha':a'= .fail
  ·rw[ha,ha']
  ·obtain⟨N,hN⟩:=g.1 ha';have h1:=hN N (P5 _)
   (try dsimp only at h1)
   exact (h.2 (N+1) (by rw[h1];exact ha')).symm.trans h1
 ·obtain⟨N,hN⟩:=h.1 ha;have h1:=hN (N+1) (by omega);have h2:=g.2 N
  (try dsimp only at h2)
  exact h1.symm.trans (h2 (by rw[h1];exact ha))
def qV{p:Pg}(hO:fj p)(f:FuncId)(args:List AV):aj p f args=jX p (aj p) ao f args:=by
 funext h;have h1:=mm hO f args h;have h2:=tz hO (fun f=>mm hO f) wV FL (fun n=>uV n) f args h;exact h1.uniq h2
def wz[Dr]{P:Program}{p:Pg}(G:GoodPg P p)(hO:fj p):df P p.own (aj p):=by
 intro f args h S β w vs hr hg hw hh hv;obtain⟨N,hN⟩:=(mm hO f args h).1 hr;have h1:=hN N (P5 _)
 (try dsimp only at h1)
 rw[<- h1]at hr |-;exact nH G N f args h S β w vs hr hg hw hh hv
def Fh{p:Pg}(hO:fj p){n:Nat}{f:FuncId}{args:List AV}{h:Hp}{r:R AV}(hr:ej p n f args h=r)(hne:r≠.fail):aj p f args h=r:=by
 have:=(mm hO f args h).2 n (by(try dsimp only);rw[hr];exact hne)
 (try dsimp only at this)
 rw[<- this,hr]
end Go.Av
namespace Go.Av
section
variable {ρ:Type}
theorem aU{F:(List AV->M ρ)->List AV->M ρ}(hF:mK F)(vs:List AV):ao F vs=F (ao F) vs:=by
 funext h;exact (iJ hF vs h).uniq (hF _ _ (iJ hF) vs h)
theorem aC{c:AV}{x y:M ρ}{xs ys:Nat->M ρ}(hx:dL x xs)(hy:dL y ys):dL (aA c x y) fun n=>aA c (xs n) (ys n):=by
 unfold aA;cases c with
 |bool b=>cases b<;>first|exact hx|exact hy
 |_=>exact ba _
theorem rI{k:List AV->M ρ}{ks:Nat->List AV->M ρ}{m:(List AV->M ρ)->M ρ}{ms:Nat->(List AV->M ρ)->M ρ}(hk:bG k ks)(hm:∀j js,bG j js->dL (m j) fun n=>ms n (js n)):dL (jn k m) fun n=>jn (ks n) (ms n):=
 hm k ks hk
theorem kv{F:(List AV->M ρ)->List AV->M ρ}{Fs:Nat->(List AV->M ρ)->List AV->M ρ}(h1:bD F Fs)(h2:mK F)(h3:∀n,mK (Fs n)):bG (ao F) fun n=>ao (Fs n):=FL F Fs h1 h2 h3
end
end Go.Av
namespace Go.Av
def aJ(m:M AV):M AV:=fun h=>match m []with
 |.ok r h'=>.ok (oO 6 h' r) h
 |.pan v h'=>.pan (oO 6 h' v) h
 |.fail=>.fail
def aD{p:Pg}(hO:fj p){f:FuncId}{fn:Func}{a:Ann}(h1:p.other f=none)(h2:p.funcs f=some (fn,a))(h3:a.iso=true)(args:List AV):
  aj p f args=aJ (dD (p.cx (aj p) fn.ntmps a) ao fn (p.own f) (eM aB args)):=by
 rw[qV hO];unfold jX;rw[h1];simp only;rw[h2];simp only[h3,PV];rfl
def b7{p:Pg}(hO:fj p){f:FuncId}{fn:Func}{a:Ann}(h1:p.other f=none)(h2:p.funcs f=some (fn,a))(h3:a.iso=false)(args:List AV):
  aj p f args=dD (p.cx (aj p) fn.ntmps a) ao fn (p.own f) args:=by
 rw[qV hO];unfold jX;rw[h1];simp only;rw[h2];simp only[h3,P3]
def dB{p:Pg}(hO:fj p){f:FuncId}{E:(FuncId->List AV->M AV)->List AV->M AV}(h1:p.other f=some E)(args:List AV):aj p f args=E (aj p) args:=by
 rw[qV hO];unfold jX;rw[h1]
def kR(T:TT)(t:TypeId):(FuncId->List AV->M AV)->List AV->M AV:=fun _ args=>match args with
 |[.sl es]=>ah (cf T t (.sl []) (.sl es))
 |_=>f7
def gP(T:TT)(t:TypeId):(FuncId->List AV->M AV)->List AV->M AV:=fun _ args=>match args with
 |[.sl es]=>appH T t true (.sl []) (.sl es)
 |_=>f7
def yv(t:TypeId)(k:IntKind)(zero:AV):R AV->R AV
 |.ok v h'=>bif cz 4 v then .ok (.tup [.agg (aa v),.int k 0]) h' else .fail
 |.pan (.iface t' (.int k' n)) h'=>bif Nat.beq t' t&&decide (k'=k)then .ok (.tup [zero,.int k n]) h' else .fail
 |_=>.fail
def yu(t:TypeId)(k:IntKind)(zero:AV):(FuncId->List AV->M AV)->List AV->M AV:=fun call args=>match args with
 |[f]=>fun h=>yv t k zero (cX call f [] h)
 |_=>f7
def xT{m:M AV}{ms:Nat->M AV}(p:R AV->R AV)(hp:p .fail= .fail)(h:dL m ms):dL (fun x=>p (m x)) fun n=>fun x=>p (ms n x):=by
 intro x;obtain⟨h1,h2⟩:=h x;constructor
 ·intro hne;obtain⟨N,hN⟩:=h1 (fun hh=>hne (by simp only[hh,hp]));exact⟨N,fun n hn=>PR p (hN n hn)⟩
 ·intro n hne;exact PR p (h2 n (fun hh=>hne (by have:=PR p hh;simpa [hp]using this)))
def yX(T:TT)(t:TypeId)(call:FuncId->List AV->M AV)(calls:Nat->FuncId->List AV->M AV):bG (kR T t call) fun n=>kR T t (calls n):=bG.const _
def yW(T:TT)(t:TypeId)(call:FuncId->List AV->M AV)(calls:Nat->FuncId->List AV->M AV):bG (gP T t call) fun n=>gP T t (calls n):=bG.const _
def GZ(t:TypeId)(k:IntKind)(zero:AV)(call:FuncId->List AV->M AV)(calls:Nat->FuncId->List AV->M AV)(hc:∀f,bG (call f) fun n=>calls n f):bG (yu t k zero call) fun n=>yu t k zero (calls n):=by
 have hv:∀f,dL (cX call f []) fun n=>cX (calls n) f []:=by
  intro f;unfold cX;split
  ·exact hc _ _
  ·exact ba _
 intro args;cases args with
 |nil=>exact ba _
 |cons f r=>
  cases r with
  |nil=>exact xT (yv t k zero) rfl (hv f)
  |cons _ _=>exact ba _
def eU{α:Type}{b:Bool}{x:α}{o:Option α}{y:α}(h:(bif b then some x else o)=some y):x=y\/o=some y:=by
 cases b with
 |true=>exact .inl (by simpa using h)
 |false=>exact .inr h
def B6(T:TT)(t:TypeId)(call:FuncId->List AV->M AV)(args:List AV):yH (gP T t call args):=by
 unfold gP;split
 ·rename_i y;intro h v h' hh;unfold appH at hh;split at hh
  ·cases hh
  ·split at hh
   ·split at hh
    ·cases hh
    ·split at hh
     ·cases hh
     ·rename_i bs _;revert hh;generalize (_&&_:Bool)=b1;cases b1 with
      |false=>intro hh;cases hh
      | true=>
       simp only[PV];cases bs.isEmpty with
       |true=>intro hh;cases hh;exact⟨[],by simp⟩
       |false=>
        simp only[P3];generalize decide (_<=140737488355328)=b2;cases b2 with
        |false=>intro hh;cases hh
        |true=>intro hh;cases hh;exact⟨_,rfl⟩
   ·cases hh
 ·intro h v h' hh;cases hh
end Go.Av
namespace Go.Av
variable [Dr]
open Go.RowKit
section
variable {S:aP} {β:List cu} {h:Hp} {w w':World}
omit [Dr]in
theorem cP.below(hh:cP S β w h){S':aP}(hb:∀b,b<w.heap.size->w'.heap[b]? = w.heap[b]? /\∀o,S' b o=S b o)(hle:S.le S'):cP S' β w' h:=by
 obtain⟨hlen,ω,hr⟩:=hh;exact⟨hlen,ω,hr.rows hle (gB.refl β) hlen fun l cs hl _=>.inl ⟨hl,fun b hlt ho=>⟨ho,(hb b hlt).1,fun o h=>by rw[(hb b hlt).2];exact h⟩⟩⟩
theorem zG(hw:Wf S w)(hh:cP S β w h)(hb:Below w.heap.size w w')(hd:Dr.on->w.drawn<=w'.drawn){S':aP}(hS:∀b,b<w.heap.size->∀o,S' b o=S b o)(hnew:∀b o v,w.heap.size<=b->S' b o=some v->w'.cell? ⟨b,o,none⟩=some v):
  Left (cB β h) S β w S' β w' h:=by
 have hle:S.le S':=fun b o v hv=>by rw[hS b (hw.lt hv)];exact hv
 refine⟨hle,gB.refl β,fun b o v hv=>?_,⟨hb.size,hb.os,hb.output,hb.tape,hd⟩,fun b hlt _=>⟨hb.block b hlt,hS b hlt⟩,hh.below (fun b hlt=>⟨hb.block b hlt,hS b hlt⟩) hle,fun b hb=>.inl hb⟩;rcases Qn b w.heap.size with hlt|hge
 ·rw[hS b hlt]at hv;rw[cell_of_heap (hb.block b hlt)];exact hw b o v hv
 ·exact hnew b o v hge hv
theorem ey(hw:Wf S w)(hh:cP S β w h)(hb:Below w.heap.size w w')(hd:Dr.on->w.drawn<=w'.drawn){r:AV}{v:Value}(hv:VR S β r v):eo none S β h w (.ok r h) (.returned v) w':=
 ⟨S,β,v,rfl,hv,zG hw hh hb hd (fun _ _ _=>rfl) (fun b o v hge hv=>by have:=hw.lt hv;omega),fun sz hsz=>by cases hsz⟩
end
end Go.Av
namespace Go.Av
variable [Dr]
def kq:(FuncId->List AV->M AV)->List AV->M AV:=fun _ args=>match args with
 |[.str s,.str t]=>ah (bif decide (s.length<4294967281)then some (.bool (Lib.contains s t))else none)
 |_=>f7
def F6{α:Type}(p:α->Bool):List α->Option α
 |[]=>none
 |z:: r=>match F6 p r with
  |some y=>some y
  |none=>bif p z then some z else none
end Go.Av
namespace Go.Av
variable [Dr]
open Go.RowKit
def fC:Nat->Nat->List UInt8
 |0,_=>[]
 |f+1,u=>bif decide (u<10)then[UInt8.ofNat (48+u)]else fC f (u / 10)++[UInt8.ofNat (48+u % 10)]
omit [Dr]in
theorem nD:∀(f u:Nat),u<10 ^ (f+1)->fC (f+1) u=Lib.decDigits u
 | f,u,h=>by
  rw[Lib.decDigits];rw[show fC (f+1) u=bif decide (u<10)then[UInt8.ofNat (48+u)]else fC f (u / 10)++[UInt8.ofNat (48+u % 10)]from rfl];by_cases h10:u<10
  ·rw[dif_pos h10,PT h10];rfl
  ·rw[dif_neg h10,PX h10];cases f with
   |zero=>omega
   |succ f=>rw[nD f (u / 10) (by rw[RL]at h;omega)];rfl
def cI(n:Int):List UInt8:=bif decide (n<0)then 45:: fC 20 n.natAbs else fC 20 n.toNat
omit [Dr]in
theorem FZ{n:Int}(h0:-9223372036854775808<=n)(h1:n<=9223372036854775807):cI n=Lib.itoa n:=by
 unfold cI Lib.itoa;by_cases h:n<0
 ·rw[PT h,PS h];simp only[PV];rw[nD 19 n.natAbs (by omega)]
 ·rw[PX h,if_neg h];simp only[P3];rw[nD 19 n.toNat (by omega)]
def lq:(FuncId->List AV->M AV)->List AV->M AV:=fun _ args=>match args with
 |[.int .i64 n]=>ah (bif decide (-9223372036854775808<=n)&&decide (n<=9223372036854775807)then some (.str (cI n))else none)
 |_=>f7
def pp(t:TypeId)(s:List UInt8):AV:=match Lib.atoiAll s with
 |.ok v=>.tup [.int .i64 v,.nili]
 |.range=>.tup [.int .i64 (Lib.atoiSat s),.iface t .any]
 |_=>.tup [.int .i64 0,.iface t .any]
def tj(t:TypeId):(FuncId->List AV->M AV)->List AV->M AV:=fun _ args=>match args with
 |[.str s]=>ah (bif decide (s.length<=281474976710656)then some (pp t s)else none)
 |_=>f7
end Go.Av
namespace Go.Av
variable [Dr]
omit [Dr]in
theorem cP.grow{S:aP}{β:List cu}{w w':World}{h:Hp}(hh:cP S β w h)(hb:∀b,b<w.heap.size->w'.heap[b]? = w.heap[b]?):cP S β w' h:=by
 obtain⟨hlen,ω,hr⟩:=hh;exact⟨hlen,ω,hr.rows (aP.le_refl S) (gB.refl β) hlen fun l cs hl _=>.inl ⟨hl,fun b hb' ho=>⟨ho,hb b hb',fun o h=>h⟩⟩⟩
omit [Dr]in
theorem cP.low{S:aP}{β:List cu}{w:World}{h:Hp}(hh:cP S β w h){b:Nat}(hb:cB β h b):b<w.heap.size:=by
 obtain⟨_,ω,hr⟩:=hh;obtain⟨l,cs,n,h1,h2,h3⟩:=hb;obtain⟨b',x,k1,k2,_⟩:=hr.own h1 h2;rw[h3]at k1;cases k1;exact k2
omit [Dr]in
theorem Wf.grow{S:aP}{w w':World}(hw:Wf S w)(hb:∀b,b<w.heap.size->w'.heap[b]? = w.heap[b]?):Wf S w':=
 fun b o v hv=>by rw[cell_of_heap (hb b (hw.lt hv))];exact hw b o v hv
theorem tX{S S':aP}{β β':List cu}{w w2 w' w'':World}{h h':Hp}(hg:Gro w w2)(hold:∀b,b<w.heap.size->w2.heap[b]? = w.heap[b]?)(L:Left (cB β h) S β w2 S' β' w' h')(hg':Gro w' w'')(hsame:∀b,¬(w.heap.size<=b/\b<w2.heap.size)->w''.heap[b]? = w'.heap[b]?)(hw:Wf S w)(hh:cP S β w h):Left (cB β h) S β w S' β' w'' h':=by
 have hs:=hg.size;refine⟨L.le,L.ext,fun b o v hv=>?_,(hg.trans L.gro).trans hg',fun b hb hE=>?_,?_,fun b hb=>?_⟩
 ·by_cases hb:w.heap.size<=b/\b<w2.heap.size
  ·have hE:¬cB β h b:=fun ho=>by have:=hh.low ho;omega
   have:=(L.keep b hb.2 hE).2 o
   rw[this,hw.none hb.1]at hv;cases hv
  ·rw[cell_of_heap (hsame b hb)];exact L.wf b o v hv
 ·have h1:=L.keep b (by omega) hE;exact⟨by rw[hsame b (by omega),h1.1,hold b hb],h1.2⟩
 ·obtain⟨hlen,ω,hr⟩:=L.heap;refine⟨hlen,ω,hr.rowsA (aP.le_refl S') (gB.refl β') hlen fun l cs hl hne=>.inl ⟨hl,fun b _ ⟨n,h1⟩ h3=>⟨h3,hsame b fun hb=>?_,fun o h=>h⟩⟩⟩;rcases L.owned b ⟨l,cs,_,hl,hne,h1⟩with ho|ho
  ·have:=hh.low ho;omega
  ·omega
 ·rcases L.owned b hb with ho|ho
  ·exact .inl ho
  ·exact .inr (by omega)
theorem Gro.setCell(w:World)(a:Addr)(v:Value):Gro w (w.setCell a v):=⟨by simp,rfl,rfl,rfl,fun _=>P5 _⟩
omit [Dr]in
theorem bB{w:World}{a:Addr}{v:Value}{b:Nat}(h:b≠a.block):(w.setCell a v).heap[b]? = w.heap[b]?:=by
 simp only[World.setCell,Array.getElem?_modify];rw[if_neg (fun e=>h e.symm)]
end Go.Av
namespace Go.Av
variable [Dr]
omit [Dr]in
theorem wP(β:List cu)(q:cu):gB β (β++[q]):=fun l b hb=>by
 have:l<β.length:=by
  rcases Qn l β.length with h|h
  ·exact h
  ·rw[Qh h]at hb;simp at hb
 rw[Ql this];exact hb
omit [Dr]in
theorem tO{β:List cu}{h:Hp}(hlen:β.length=h.length){q:cu}{cs:List AV}{b:Nat}(H:cB (β++[q]) (h++[cs]) b):cB β h b\/b=q.1:=by
 obtain⟨l,ds,n,h1,h2,h3⟩:=H;rcases Qn l h.length with hlt|hge
 ·rw[Ql hlt]at h1;rw[Ql (by omega)]at h3;exact .inl ⟨l,ds,n,h1,h2,h3⟩
 ·rw[Qx (by omega)]at h3;rcases QK (l-β.length)with h0|h0
  ·rw[h0]at h3;simp only[PU,PN]at h3;subst h3;exact .inr rfl
  ·rw[Qh (by simp;omega)]at h3;simp at h3
omit [Dr]in
theorem PL{S:aP}{β:List cu}{w w':World}{h:Hp}(hh:cP S β w h)(hw:Wf S w)(hold:∀b,b<w.heap.size->w'.heap[b]? = w.heap[b]?){b:Nat}{x:Array Value}{t:TypeId}(hb:w.heap.size<=b)(hrow:w'.heap[b]? = some (.cells x t (0,0))){cs:List AV}(hcs:bQ S β cs (x.toList.take cs.length))(htag:∀t',¬eu t' cs):cP S (β++[(b,x.size)]) w' (h++[cs]):=by
 obtain⟨hlen,ω,hr⟩:=hh;have hext:=wP β (b,x.size);refine⟨by simp[hlen],fun k=>if k=b then .heap h.length else ω k,?_⟩;refine hr.rows (aP.le_refl S) hext hlen fun l cs' hl hne=>?_;rcases Qn l h.length with hlt|hge
 ·rw[Ql hlt]at hl;exact .inl ⟨hl,fun k hk ho=>⟨by rw[if_neg (by omega)];exact ho,hold k hk,fun o h=>h⟩⟩
 ·rw[Qx hge]at hl;have hlz:l=h.length:=by
   rcases QK (l-h.length)with h0|h0
   ·omega
   ·rw[Qh (by simp;omega)]at hl;simp at hl
  subst hlz;simp only[Sx,PU,PN]at hl;subst hl;exact .inr ⟨b,x,by rw[<- hlen];simp,⟨t,hrow⟩,by rw[PS rfl],hcs.mono (aP.le_refl S) hext,fun o=>hw.none hb o,fun t' ht'=>absurd ht' (htag t')⟩
theorem Left.trans{E:Nat->Prop}{S S1 S2:aP}{β β1 β2:List cu}{w w1 w2:World}{h1 h2:Hp}(L1:Left E S β w S1 β1 w1 h1)(L2:Left (cB β1 h1) S1 β1 w1 S2 β2 w2 h2):Left E S β w S2 β2 w2 h2:=by
 have hs:=L1.size;refine⟨fun b o v hv=>L2.le b o v (L1.le b o v hv),gB.trans L1.ext L2.ext,L2.wf,L1.gro.trans L2.gro,fun b hb hE=>?_,L2.heap,fun b hb=>?_⟩
 ·have a1:=L1.keep b hb hE;have hno:¬cB β1 h1 b:=fun ho=>by
   rcases L1.owned b ho with h|h
   ·exact hE h
   ·omega
  have a2:=L2.keep b (by omega) hno;exact⟨a2.1.trans a1.1,fun o=>(a2.2 o).trans (a1.2 o)⟩
 ·rcases L2.owned b hb with h|h
  ·exact L1.owned b h
  ·exact .inr (by omega)
theorem Left.store{E:Nat->Prop}{S S1:aP}{β β1:List cu}{w w1 w2:World}{h1:Hp}(L:Left E S β w S1 β1 w1 h1)(hg:Gro w1 w2)(B:Nat->Prop)(hB:∀b,B b->w.heap.size<=b/\¬cB β1 h1 b/\∀o,S1 b o=none)(hsame:∀b,¬B b->w2.heap[b]? = w1.heap[b]?):Left E S β w S1 β1 w2 h1:=by
 refine⟨L.le,L.ext,fun b o v hv=>?_,L.gro.trans hg,fun b hb hE=>?_,?_,L.owned⟩
 ·by_cases hb:B b
  ·rw[(hB b hb).2.2 o]at hv;cases hv
  ·rw[cell_of_heap (hsame b hb)];exact L.wf b o v hv
 ·have a:=L.keep b hb hE;exact⟨(hsame b fun hb'=>by have:=(hB b hb').1;omega).trans a.1,a.2⟩
 ·obtain⟨hlen,ω,hr⟩:=L.heap;exact⟨hlen,ω,hr.rowsA (aP.le_refl S1) (gB.refl β1) hlen fun l cs hl hne=>.inl ⟨hl,fun b _ ⟨n,k1⟩ k3=>⟨k3,hsame b fun hb=>(hB b hb).2.1 ⟨l,cs,n,hl,hne,k1⟩,fun o h=>h⟩⟩⟩
theorem tW{S S':aP}{β β':List cu}{w w2 w':World}{h h':Hp}{q:cu}{cs:List AV}(hw:Wf S w)(hh:cP S β w h)(hg:Gro w w2)(hold:∀b,b<w.heap.size->w2.heap[b]? = w.heap[b]?)(hq:w.heap.size<=q.1)(L:Left (cB (β++[q]) (h++[cs])) S (β++[q]) w2 S' β' w' h'):Left (cB β h) S β w S' β' w' h':=by
 have hs:=hg.size;refine⟨L.le,gB.trans (wP β q) L.ext,L.wf,hg.trans L.gro,fun b hb hE=>?_,L.heap,fun b hb=>?_⟩
 ·have hno:¬cB (β++[q]) (h++[cs]) b:=fun ho=>by
   rcases tO hh.1 ho with h|h
   ·exact hE h
   ·omega
  have a:=L.keep b (by omega) hno;exact⟨a.1.trans (hold b hb),a.2⟩
 ·rcases L.owned b hb with ho|ho
  ·rcases tO hh.1 ho with h|h
   ·exact .inl h
   ·exact .inr (by omega)
  ·exact .inr (by omega)
end Go.Av
namespace Go.Av.Ap
abbrev aR:=List UInt8
inductive Val where
 |mk (kind n:Int) (names:List aR) (values:List Val)
instance:Inhabited Val:=⟨.mk 0 0 [] []⟩
inductive Exp where
 |mk (op n:Int) (s m:aR) (names:List aR) (args:List Exp)
instance:Inhabited Exp:=⟨.mk 0 0 [] [] [] []⟩
inductive Ty where
 |mk (kind:Int) (fields:List (aR×Ty))
instance:Inhabited Ty:=⟨.mk 0 []⟩
abbrev cE:=aR×Ty
structure Fun where
 name:aR
 pub:Bool
 params:List cE
 result:Ty
 effects:Int
 body:Exp
 deriving Inhabited
structure Mod where
 name:aR
 uses:List aR
 vars:List cE
 init:List Exp
 funcs:List Fun
 moves:Bool
 old:List cE
 forward:List Exp
 back:List Exp
 deriving Inhabited
def Val.kind:Val->Int|.mk k _ _ _=>k
def Val.n:Val->Int|.mk _ n _ _=>n
def Val.names:Val->List aR|.mk _ _ ns _=>ns
def Val.values:Val->List Val|.mk _ _ _ vs=>vs
def Exp.op:Exp->Int|.mk o _ _ _ _ _=>o
def Exp.n:Exp->Int|.mk _ n _ _ _ _=>n
def Exp.s:Exp->aR|.mk _ _ s _ _ _=>s
def Exp.m:Exp->aR|.mk _ _ _ m _ _=>m
def Exp.names:Exp->List aR|.mk _ _ _ _ ns _=>ns
def Exp.args:Exp->List Exp|.mk _ _ _ _ _ es=>es
def Ty.kind:Ty->Int|.mk k _=>k
def Ty.fields:Ty->List cE|.mk _ fs=>fs
@[simp] theorem Pq(a b c d):(Val.mk a b c d).kind=a:=rfl
@[simp] theorem Pu(a b c d):(Val.mk a b c d).n=b:=rfl
@[simp] theorem Pp(a b c d):(Val.mk a b c d).names=c:=rfl
@[simp] theorem Po(a b c d):(Val.mk a b c d).values=d:=rfl
def strs(l:List aR):AV:=.sl (l.map .str)
mutual
def Val.av:Val->AV
 |.mk k n ns vs=>.agg [.int .i64 k,.int .i64 n,strs ns,.sl (dP vs)]
def dP:List Val->List AV
 |[]=>[]
 |v:: vs=>v.av:: dP vs
end
mutual
def Exp.cells:Exp->List AV
 |.mk o n s m ns es=>[.int .i64 o,.int .i64 n,.str s,.str m,strs ns,.sl (iT es)]
def iT:List Exp->List AV
 |[]=>[]
 |e:: es=>.agg e.cells:: iT es
end
def Exp.av(e:Exp):AV:=.agg e.cells
mutual
def Ty.cells:Ty->List AV
 |.mk k fs=>[.int .i64 k,.sl (iU fs)]
def iU:List (aR×Ty)->List AV
 |[]=>[]
 |f:: fs=>bZ f:: iU fs
def bZ:aR×Ty->AV
 |(n,t)=>.agg (.str n:: t.cells)
end
def Ty.av(t:Ty):AV:=.agg t.cells
def Fun.av(f:Fun):AV:=.agg ([.str f.name,.bool f.pub,.sl (iU f.params)]++f.result.cells++[.int .i64 f.effects]++f.body.cells)
def mI(l:List Fun):AV:=.sl (l.map Fun.av)
def Mod.av(m:Mod):AV:=.agg [.str m.name,strs m.uses,.sl (iU m.vars),.sl (iT m.init),mI m.funcs,.bool m.moves,.sl (iU m.old),.sl (iT m.forward),.sl (iT m.back)]
def vals(l:List Val):AV:=.sl (dP l)
def bE(l:List Exp):AV:=.sl (iT l)
def bm(l:List cE):AV:=.sl (iU l)
def dI(l:List Mod):AV:=.sl (l.map Mod.av)
def ints(l:List Int):AV:=.sl (l.map (.int .i64))
structure Vars where
 module:aR
 values:List Val
 deriving Inhabited
structure Deed where
 effect:Int
 arg:Int
 answer:Int
 deriving DecidableEq,Inhabited
structure Call where
 module:aR
 func:aR
 args:List Val
 deriving Inhabited
def Vars.av(v:Vars):AV:=.agg [.str v.module,vals v.values]
def Deed.av(d:Deed):AV:=.agg [.int .i64 d.effect,.int .i64 d.arg,.int .i64 d.answer]
def Call.av(c:Call):AV:=.agg [.str c.module,.str c.func,vals c.args]
def dR(l:List Vars):AV:=.sl (l.map Vars.av)
def deeds(l:List Deed):AV:=.sl (l.map Deed.av)
def calls(l:List Call):AV:=.sl (l.map Call.av)
structure Out where
 err:Int
 value:Val
 deeds:List Deed
 calls:List Call
 state:List Vars
def Out.av(o:Out):AV:=.agg [.int .i64 o.err,.int .i64 o.value.kind,.int .i64 o.value.n,strs o.value.names,vals o.value.values,Ap.deeds o.deeds,Ap.calls o.calls,dR o.state]
theorem fh:(l:List Val)->dP l=l.map Val.av
 |[]=>rfl
 |v:: l=>by simp[dP,fh l]
theorem jF:(l:List Exp)->iT l=l.map Exp.av
 |[]=>rfl
 |v:: l=>by simp[iT,jF l,Exp.av]
theorem jI:(l:List cE)->iU l=l.map bZ
 |[]=>rfl
 |v:: l=>by simp[iU,jI l]
def Val.av_eq(v:Val):v.av= .agg [.int .i64 v.kind,.int .i64 v.n,strs v.names,vals v.values]:=by cases v;rfl
def Exp.cells_eq(e:Exp):e.cells=[.int .i64 e.op,.int .i64 e.n,.str e.s,.str e.m,strs e.names,bE e.args]:=by cases e;rfl
def Ty.cells_eq(t:Ty):t.cells=[.int .i64 t.kind,bm t.fields]:=by cases t;simp[Ty.cells,bm,Ty.kind,Ty.fields]
def nM(f:cE):bZ f= .agg [.str f.1,.int .i64 f.2.kind,bm f.2.fields]:=by obtain⟨n,t⟩:=f;simp[bZ,Ty.cells_eq]
@[simp] theorem cw(v:Val):aa v.av=[.int .i64 v.kind,.int .i64 v.n,strs v.names,vals v.values]:=by rw[v.av_eq];rfl
@[simp] theorem aX(e:Exp):aa e.av=[.int .i64 e.op,.int .i64 e.n,.str e.s,.str e.m,strs e.names,bE e.args]:=by rw[Exp.av,e.cells_eq];rfl
@[simp] theorem jv(f:cE):aa (bZ f)=[.str f.1,.int .i64 f.2.kind,bm f.2.fields]:=by rw[nM];rfl
@[simp] theorem mh(t:Ty):aa t.av=[.int .i64 t.kind,bm t.fields]:=by rw[Ty.av,t.cells_eq];rfl
@[simp] theorem ib(f:Fun):aa f.av=[.str f.name,.bool f.pub,bm f.params,.int .i64 f.result.kind,bm f.result.fields,.int .i64 f.effects,.int .i64 f.body.op,.int .i64 f.body.n,.str f.body.s,.str f.body.m,strs f.body.names,bE f.body.args]:=by
 simp[Fun.av,aa,Ty.cells_eq,Exp.cells_eq,bm]
@[simp] theorem gw(m:Mod):aa m.av=[.str m.name,strs m.uses,bm m.vars,bE m.init,mI m.funcs,.bool m.moves,bm m.old,bE m.forward,bE m.back]:=rfl
@[simp] theorem xd(v:Val):AV.agg [.int .i64 v.kind,.int .i64 v.n,strs v.names,vals v.values]=v.av:=(v.av_eq).symm
@[simp] theorem wX(e:Exp):AV.agg [.int .i64 e.op,.int .i64 e.n,.str e.s,.str e.m,strs e.names,bE e.args]=e.av:=by rw[Exp.av,e.cells_eq]
@[simp] theorem uW(t:Ty):AV.agg [.int .i64 t.kind,bm t.fields]=t.av:=by rw[Ty.av,t.cells_eq]
@[simp] theorem wY(f:cE):AV.agg [.str f.1,.int .i64 f.2.kind,bm f.2.fields]=bZ f:=(nM f).symm
@[simp] theorem wZ(f:Fun):AV.agg [.str f.name,.bool f.pub,bm f.params,.int .i64 f.result.kind,bm f.result.fields,.int .i64 f.effects,.int .i64 f.body.op,.int .i64 f.body.n,.str f.body.s,.str f.body.m,strs f.body.names,bE f.body.args]=f.av:=by
 simp[Fun.av,Ty.cells_eq,Exp.cells_eq,bm]
@[simp] theorem xa(m:Mod):AV.agg [.str m.name,strs m.uses,bm m.vars,bE m.init,mI m.funcs,.bool m.moves,bm m.old,bE m.forward,bE m.back]=m.av:=rfl
theorem fN{α:Type}(g:Nat->Nat->Nat->Nat->Bool->AV)(f:α->AV)(h:∀x,cl g (f x)=f x):(l:List α)->eM g (l.map f)=l.map f
 |[]=>rfl
 |x:: l=>by simp[eM,h x,fN g f h l]
@[simp] theorem ny(g:Nat->Nat->Nat->Nat->Bool->AV)(l:List aR):cl g (strs l)=strs l:=by
 simp[strs,cl,fN g AV.str (fun _=>rfl) l]
@[simp] theorem Nz(g:Nat->Nat->Nat->Nat->Bool->AV)(l:List Int):cl g (ints l)=ints l:=by
 simp[ints,cl,fN g (AV.int .i64) (fun _=>rfl) l]
mutual
theorem Val.cl_av(g:Nat->Nat->Nat->Nat->Bool->AV):(v:Val)->cl g v.av=v.av
 |.mk k n ns vs=>by simp[Val.av,cl,eM,vV g vs]
theorem vV(g:Nat->Nat->Nat->Nat->Bool->AV):(l:List Val)->eM g (dP l)=dP l
 |[]=>rfl
 |v:: l=>by simp[dP,eM,Val.cl_av g v,vV g l]
end
mutual
theorem Exp.cl_cells(g:Nat->Nat->Nat->Nat->Bool->AV):(e:Exp)->eM g e.cells=e.cells
 |.mk o n s m ns es=>by simp[Exp.cells,cl,eM,qu g es]
theorem qu(g:Nat->Nat->Nat->Nat->Bool->AV):(l:List Exp)->eM g (iT l)=iT l
 |[]=>rfl
 |e:: l=>by simp[iT,eM,cl,Exp.cl_cells g e,qu g l]
end
mutual
theorem Ty.cl_cells(g:Nat->Nat->Nat->Nat->Bool->AV):(t:Ty)->eM g t.cells=t.cells
 |.mk k fs=>by simp[Ty.cells,cl,eM,nN g fs]
theorem nN(g:Nat->Nat->Nat->Nat->Bool->AV):(l:List (aR×Ty))->eM g (iU l)=iU l
 |[]=>rfl
 |f:: l=>by simp[iU,eM,FM g f,nN g l]
theorem FM(g:Nat->Nat->Nat->Nat->Bool->AV):(f:aR×Ty)->cl g (bZ f)=bZ f
 |(n,t)=>by simp[bZ,cl,eM,Ty.cl_cells g t]
end
@[simp] theorem gO(g:Nat->Nat->Nat->Nat->Bool->AV)(v:Val):cl g v.av=v.av:=v.cl_av g
@[simp] theorem eh(g:Nat->Nat->Nat->Nat->Bool->AV)(l:List Val):cl g (vals l)=vals l:=by simp[vals,cl,vV]
@[simp] theorem yV(g:Nat->Nat->Nat->Nat->Bool->AV)(e:Exp):cl g e.av=e.av:=by simp[Exp.av,cl,Exp.cl_cells]
@[simp] theorem AM(g:Nat->Nat->Nat->Nat->Bool->AV)(l:List Exp):cl g (bE l)=bE l:=by simp[bE,cl,qu]
@[simp] theorem kp(g:Nat->Nat->Nat->Nat->Bool->AV)(t:Ty):cl g t.av=t.av:=by simp[Ty.av,cl,Ty.cl_cells]
@[simp] theorem N8(g:Nat->Nat->Nat->Nat->Bool->AV)(f:cE):cl g (bZ f)=bZ f:=FM g f
@[simp] theorem gg(g:Nat->Nat->Nat->Nat->Bool->AV)(l:List cE):cl g (bm l)=bm l:=by simp[bm,cl,nN]
theorem qZ(g:Nat->Nat->Nat->Nat->Bool->AV):(a b:List AV)->eM g (a++b)=eM g a++eM g b
 |[],b=>rfl
 |x:: a,b=>by simp[eM,qZ g a b]
@[simp] theorem Fi(g:Nat->Nat->Nat->Nat->Bool->AV)(f:Fun):cl g f.av=f.av:=by
 simp[Fun.av,cl,eM,qZ,nN,Ty.cl_cells,Exp.cl_cells]
@[simp] theorem HF(g:Nat->Nat->Nat->Nat->Bool->AV)(l:List Fun):cl g (mI l)=mI l:=by simp[mI,cl,fN g Fun.av (Fi g)]
@[simp] theorem eQ(g:Nat->Nat->Nat->Nat->Bool->AV)(m:Mod):cl g m.av=m.av:=by
 simp[Mod.av,cl,eM,nN,qu,HF]
@[simp] theorem mn(g:Nat->Nat->Nat->Nat->Bool->AV)(l:List Mod):cl g (dI l)=dI l:=by simp[dI,cl,fN g Mod.av (eQ g)]
@[simp] theorem uK(g:Nat->Nat->Nat->Nat->Bool->AV)(k:IntKind)(n:Int):cl g (.int k n)= .int k n:=rfl
@[simp] theorem Ny(g:Nat->Nat->Nat->Nat->Bool->AV)(b:Bool):cl g (.bool b)= .bool b:=rfl
@[simp] theorem uL(g:Nat->Nat->Nat->Nat->Bool->AV)(s:aR):cl g (.str s)= .str s:=rfl
@[simp] theorem HJ(g:Nat->Nat->Nat->Nat->Bool->AV)(v:Vars):cl g v.av=v.av:=by simp[Vars.av,cl,eM]
@[simp] theorem HE(g:Nat->Nat->Nat->Nat->Bool->AV)(v:Deed):cl g v.av=v.av:=by simp[Deed.av,cl,eM]
@[simp] theorem HD(g:Nat->Nat->Nat->Nat->Bool->AV)(v:Call):cl g v.av=v.av:=by simp[Call.av,cl,eM]
@[simp] theorem My(g:Nat->Nat->Nat->Nat->Bool->AV)(l:List Vars):cl g (dR l)=dR l:=by simp[dR,cl,fN g Vars.av (HJ g)]
@[simp] theorem Mv(g:Nat->Nat->Nat->Nat->Bool->AV)(l:List Deed):cl g (deeds l)=deeds l:=by simp[deeds,cl,fN g Deed.av (HE g)]
@[simp] theorem Mu(g:Nat->Nat->Nat->Nat->Bool->AV)(l:List Call):cl g (calls l)=calls l:=by simp[calls,cl,fN g Call.av (HD g)]
@[simp] theorem N9(g:Nat->Nat->Nat->Nat->Bool->AV)(o:Out):cl g o.av=o.av:=by simp[Out.av,cl,eM]
@[simp] theorem pm(v:Vars):aa v.av=[.str v.module,vals v.values]:=rfl
@[simp] theorem pk(v:Deed):aa v.av=[.int .i64 v.effect,.int .i64 v.arg,.int .i64 v.answer]:=rfl
@[simp] theorem pj(v:Call):aa v.av=[.str v.module,.str v.func,vals v.args]:=rfl
@[simp] theorem qL(o:Out):aa o.av=[.int .i64 o.err,.int .i64 o.value.kind,.int .i64 o.value.n,strs o.value.names,vals o.value.values,deeds o.deeds,calls o.calls,dR o.state]:=rfl
@[simp] theorem tM(v:Vars):AV.agg [.str v.module,vals v.values]=v.av:=rfl
@[simp] theorem tL(v:Deed):AV.agg [.int .i64 v.effect,.int .i64 v.arg,.int .i64 v.answer]=v.av:=rfl
@[simp] theorem tK(v:Call):AV.agg [.str v.module,.str v.func,vals v.args]=v.av:=rfl
@[simp] theorem xb(o:Out):AV.agg [.int .i64 o.err,.int .i64 o.value.kind,.int .i64 o.value.n,strs o.value.names,vals o.value.values,deeds o.deeds,calls o.calls,dR o.state]=o.av:=rfl
@[simp] theorem L8(v:Vars):dk v.av=some 2:=rfl
@[simp] theorem L5(v:Deed):dk v.av=some 3:=rfl
@[simp] theorem L4(v:Call):dk v.av=some 3:=rfl
@[simp] theorem Ng(v:Out):dk v.av=some 8:=rfl
@[simp] theorem uf(v:Vars):cz 2 v.av=true:=by simp[cz,bM,vals]
@[simp] theorem my(v:Deed):cz 3 v.av=true:=by simp[cz,bM]
@[simp] theorem ue(v:Call):cz 3 v.av=true:=by simp[cz,bM,vals]
@[simp] theorem xP(v:Out):cz 8 v.av=true:=by simp[cz,bM,vals,strs,deeds,calls,dR]
def Clean(a:AV):Prop:=∀g,cl g a=a
def Clean.frz{a:AV}(h:Clean a)(d:Nat)(hp:Hp):oO d hp a=a:=by
 cases d with
 |zero=>exact h _
 |succ d=>exact h _
def bw{a:AV}(h:Clean a):aJ (ay a)=ay a:=by
 funext hp;simp only[aJ,ay,h.frz]
@[simp] theorem dK(b:Bool):aJ (ay (.bool b))=ay (.bool b):=bw fun _=>rfl
@[simp] theorem dW(k:IntKind)(n:Int):aJ (ay (.int k n))=ay (.int k n):=bw fun _=>rfl
@[simp] theorem iL(s:aR):aJ (ay (.str s))=ay (.str s):=bw fun _=>rfl
@[simp] theorem iM(v:Val):aJ (ay v.av)=ay v.av:=bw fun g=>gO g v
@[simp] theorem LR(v:List Val):aJ (ay (vals v))=ay (vals v):=bw fun g=>eh g v
@[simp] theorem MQ(v:Exp):aJ (ay v.av)=ay v.av:=bw fun g=>yV g v
@[simp] theorem MR(v:Fun):aJ (ay v.av)=ay v.av:=bw fun g=>Fi g v
@[simp] theorem Ni(v:Val):dk v.av=some 4:=by rw[v.av_eq];rfl
@[simp] theorem Na(e:Exp):dk e.av=some 6:=by rw[Exp.av,e.cells_eq];rfl
@[simp] theorem Nb(f:cE):dk (bZ f)=some 3:=by rw[nM];rfl
@[simp] theorem NF(t:Ty):dk t.av=some 2:=by rw[Ty.av,t.cells_eq];rfl
@[simp] theorem Nc(f:Fun):dk f.av=some 12:=by simp[Fun.av,dk,Ty.cells_eq,Exp.cells_eq]
@[simp] theorem Nf(m:Mod):dk m.av=some 9:=rfl
@[simp] theorem cL(v:Val):cz 4 v.av=true:=by simp[cz,bM,strs,vals]
@[simp] theorem kC(e:Exp):cz 6 e.av=true:=by simp[cz,bM,strs,bE]
@[simp] theorem nY(f:cE):cz 3 (bZ f)=true:=by simp[cz,bM,bm]
@[simp] theorem kD(f:Fun):cz 12 f.av=true:=by simp[cz,bM,bm,strs,bE]
@[simp] theorem kE(m:Mod):cz 9 m.av=true:=by simp[cz,bM,bm,strs,bE,mI]
@[simp] theorem Gr(s:aR):cz 1 (.str s)=true:=rfl
@[simp] theorem Gp(k:IntKind)(n:Int):cz 1 (.int k n)=true:=rfl
def eT{α:Type}{sz:Nat}{f:α->AV}(h:∀x,cz sz (f x)=true)(l:List α):eD sz (l.map f)=true:=by simp[eD,h]
@[simp] theorem L3(l:List aR):eD 1 (l.map AV.str)=true:=eT Gr l
@[simp] theorem CG(l:List Int):eD 1 (l.map (AV.int .i64))=true:=eT (Gp .i64) l
@[simp] theorem CH(l:List Val):eD 4 (dP l)=true:=by rw[fh];exact eT cL l
@[simp] theorem LV(l:List Exp):eD 6 (iT l)=true:=by rw[jF];exact eT kC l
@[simp] theorem LW(l:List cE):eD 3 (iU l)=true:=by rw[jI];exact eT nY l
@[simp] theorem LX(l:List Fun):eD 12 (l.map Fun.av)=true:=eT kD l
@[simp] theorem LY(l:List Mod):eD 9 (l.map Mod.av)=true:=eT kE l
def rD{T:TT}{t e:Nat}{ti ei:TI}(ht:T t=some ti)(hk:ti.kind= .slice e)(he:T e=some ei){α:Type}{f:α->AV}(hs:∀x,dk (f x)=some ei.size){l:List α}{i:Nat}{x:α}(h:l[i]? = some x):
  au T t (.sl (l.map f)) (.int .i64 (i:Int))=some (.ip (aa (f x))):=by
 unfold au;rw[ht];simp only[hk,he];rw[if_neg (by omega)];have:(l.map f)[(i:Int).toNat]? = some (f x):=by rw[P8,Q8,h];rfl
 rw[this];simp only;rw[PS (hs x)]
def dF{T:TT}{t e:Nat}{ti ei:TI}(ht:T t=some ti)(hk:ti.kind= .slice e)(he:T e=some ei){α:Type}[Inhabited α]{f:α->AV}(hs:∀x,dk (f x)=some ei.size){l:List α}{n:Int}(h0:0<=n)(h:n<(l.length:Int)):
  au T t (.sl (l.map f)) (.int .i64 n)=some (.ip (aa (f l[n.toNat]!))):=by
 have hlt:n.toNat<l.length:=by omega
 have:=rD ht hk he hs (l:=l) (i:=n.toNat) (x:=l[n.toNat]!) (by rw[List.getElem!_eq_getElem?_getD,P1 hlt];rfl)
 rw[show ((n.toNat:Nat):Int)=n by omega]at this;exact this
def qP{T:TT}{t e:Nat}{ti ei:TI}(ht:T t=some ti)(hk:ti.kind= .slice e)(he:T e=some ei){α:Type}{f:α->AV}(hs:∀x,cz ei.size (f x)=true){a b:List α}(h:(a.length+b.length)*ei.bytes<=140737488355328)(h0:0<ei.bytes):
  cf T t (.sl (a.map f)) (.sl (b.map f))=some (.sl ((a++b).map f)):=by
 unfold cf;rw[ht];simp only[hk,he,jW];rw[eT hs,eT hs];simp[h,h0,mf]
end Go.Av.Ap
namespace Go.Av
attribute [simp] ap ak Fe BX
@[simp] theorem am{α:Type}(b:Bool)(x y:M α):aA (.bool b) x y=if b=true then x else y:=by cases b<;>rfl
def gv(b w:Bool)(y:AV):AV:=bif b== w then y else .tup []
@[simp] theorem OQ(y:AV):gv false false y=y:=rfl
@[simp] theorem OT(y:AV):gv true true y=y:=rfl
@[simp] theorem OR(y:AV):gv false true y= .tup []:=rfl
@[simp] theorem OS(y:AV):gv true false y= .tup []:=rfl
@[simp high] theorem bI(b w:Bool)(y:AV):aF (.bool b) w 1 (ay [y])=ay [gv b w y]:=by cases b<;>cases w<;>rfl
@[simp high] theorem Ci(b w c w2:Bool)(y:AV):aF (gv b w (.bool c)) w2 1 (ay [y])=ay [gv b w (gv c w2 y)]:=by cases b<;>cases w<;>cases c<;>cases w2<;>rfl
@[simp high] theorem Cj(b w c e:Bool):aF (.bool b) w 1 (af (ah (aI (gv b w (.bool c)) (.bool true) (gv b w (gv c false (.bool e))))) fun v=>ay [v])=ay [gv b w (.bool (c||e))]:=by
 cases b<;>cases w<;>cases c<;>rfl
@[simp high] theorem zu(b w c e:Bool):aF (.bool b) w 1 (af (ah (aI (gv b w (.bool c)) (gv b w (gv c true (.bool e))) (.bool false))) fun v=>ay [v])=ay [gv b w (.bool (c&&e))]:=by
 cases b<;>cases w<;>cases c<;>rfl
@[simp high] theorem ek(b c:Bool):aI (.bool b) (gv b true (.bool c)) (.bool false)=some (.bool (b&&c)):=by cases b<;>rfl
@[simp high] theorem eV(b c:Bool):aI (.bool b) (.bool true) (gv b false (.bool c))=some (.bool (b||c)):=by cases b<;>rfl
@[simp] theorem HU(w:Bool)(n:Nat)(m:M (List AV)):aF (.bool !w) w n m=ay (List.replicate n (.tup [])):=by cases w<;>rfl
@[simp] theorem aL(w:Bool)(n:Nat)(m:M (List AV)):aF (.bool w) w n m=m:=by cases w<;>rfl
@[simp] theorem dl(n:Nat)(m:M (List AV)):aF (.bool false) true n m=ay (List.replicate n (.tup [])):=rfl
@[simp] theorem dm(n:Nat)(m:M (List AV)):aF (.bool true) false n m=ay (List.replicate n (.tup [])):=rfl
@[simp] theorem zw(w:Bool)(n:Nat)(m:M (List AV)):aF (.tup []) w n m=ay (List.replicate n (.tup [])):=rfl
@[simp] theorem aY(x y:AV):aI (.bool true) x y=some x:=rfl
@[simp] theorem aS(x y:AV):aI (.bool false) x y=some y:=rfl
@[simp] theorem ax(x:AV)(l:List AV):ae (x:: l) 0=x:=rfl
@[simp] theorem aE(x:AV)(l:List AV)(n:Nat):ae (x:: l) (n+1)=ae l n:=rfl
@[simp] theorem ci{α:Type}(k:List AV->M α)(m:(List AV->M α)->M α):jn k m=m k:=rfl
@[simp] theorem bA{α:Type}(a:α):bX (ay a)=ay a:=rfl
@[simp] theorem bq(b:Bool):eX .not (.bool b)=some (.bool !b):=rfl
@[simp] theorem aO(l:List AV)(i:Nat):aQ (.tup l) i=l[i]?:=rfl
@[simp] theorem Kf:True:=trivial
@[simp] theorem aZ(l k:Nat):aV (.hp l k)=some (.hp l k):=rfl
@[simp] theorem Ln(cs:List AV):aV (.ip cs)=some (.ip cs):=rfl
@[simp] theorem mY(s:List UInt8):aa (.str s)=[.str s]:=rfl
@[simp] theorem Kv(k:IntKind)(n:Int):aa (.int k n)=[.int k n]:=rfl
@[simp] theorem bl(cs:List AV):aa (.agg cs)=cs:=rfl
@[simp] theorem cy(T:TT)(t:Nat)(a b:Int):aw T .add t (.int .i64 a) (.int .i64 b)=some (.int .i64 (IntKind.i64.wrap (a+b))):=rfl
@[simp] theorem gL(T:TT)(t:Nat)(a b:Int):aw T .sub t (.int .i64 a) (.int .i64 b)=some (.int .i64 (IntKind.i64.wrap (a-b))):=rfl
@[simp] theorem AH(T:TT)(t:Nat)(a b:Int):aw T .mul t (.int .i64 a) (.int .i64 b)=some (.int .i64 (IntKind.i64.wrap (a*b))):=rfl
@[simp] theorem bC(T:TT)(t:Nat)(a b:Int):aw T .lss t (.int .i64 a) (.int .i64 b)=some (.bool (decide (a<b))):=rfl
@[simp] theorem ml(T:TT)(t:Nat)(a b:Int):aw T .leq t (.int .i64 a) (.int .i64 b)=some (.bool (decide (a<=b))):=rfl
@[simp] theorem jf(T:TT)(t:Nat)(a b:Int):aw T .gtr t (.int .i64 a) (.int .i64 b)=some (.bool (decide (b<a))):=rfl
@[simp] theorem ix(T:TT)(t:Nat)(a b:Int):aw T .geq t (.int .i64 a) (.int .i64 b)=some (.bool (decide (b<=a))):=rfl
@[simp] theorem dJ(T:TT)(t:Nat)(a b:Int):aw T .eql t (.int .i64 a) (.int .i64 b)=some (.bool (a== b)):=rfl
@[simp] theorem fL(T:TT)(t:Nat)(a b:Int):aw T .neq t (.int .i64 a) (.int .i64 b)=some (.bool (a != b)):=rfl
@[simp] theorem qE(T:TT)(t:Nat)(a b:List UInt8):aw T .eql t (.str a) (.str b)=some (.bool (a== b)):=rfl
@[simp] theorem oq(T:TT)(t:Nat)(a b:List UInt8):aw T .neq t (.str a) (.str b)=some (.bool !(a== b)):=rfl
@[simp] theorem NI(T:TT)(t:Nat)(a b:List UInt8):aw T .lss t (.str a) (.str b)=some (.bool (bP a b)):=rfl
@[simp] theorem NG(T:TT)(t:Nat)(a b:List UInt8):aw T .geq t (.str a) (.str b)=some (.bool !(bP a b)):=rfl
@[simp] theorem bu{n:Nat}{x:AV}(h:cz n x=true):aW n x=ay (.agg (aa x)):=by
 unfold aW j9;rw[h];rfl
@[simp] theorem cT{n:Nat}{x:AV}(h:cz n x=true):az n [] x=ay (.agg (aa x)):=by
 unfold az j9;rw[h];rfl
@[simp] theorem LU(b:Bool)(x:AV):i8 b [x]=some x:=by simp[i8]
@[simp] theorem ua(b:Bool)(a c:Int):i8 b [.int .i64 a,.int .i64 c]=some (.int .i64 (if b=true then max a c else min a c)):=by
 cases b
 ·simp only[i8,Cv,P3];congr 2;simp only[Int.min_def];split<;>split<;>simp_all<;>omega
 ·simp only[i8,Cv,PV];congr 2;simp only[Int.max_def];split<;>split<;>simp_all<;>omega
def bd{x:Int}(h1:-9223372036854775808<=x)(h2:x<=9223372036854775807):IntKind.i64.wrap x=x:=IntWalk.i64_in _ ⟨h1,h2⟩
def G9{n:Nat}(h:n<=4611686018427387904):IntKind.i64.wrap (n:Int)=(n:Int):=IntWalk.i64_in _ (by omega)
def cr{n:Nat}(h:n<=4611686018427387904):IntKind.i64.wrap ((n:Int)+1)=((n+1:Nat):Int):=by
 rw[IntWalk.i64_in _ (by omega)];omega
def uy{n:Nat}(h:n<=4611686018427387904):IntKind.i64.wrap (((n+1:Nat):Int)-1)=(n:Int):=by
 rw[IntWalk.i64_in _ (by omega)];omega
namespace Ap
mutual
def Val.sz:Val->Nat
 |.mk _ _ ns vs=>1+ns.length+br vs
def br:List Val->Nat
 |[]=>0
 |v:: vs=>v.sz+br vs
end
theorem eJ:{l:List Val} ->{v:Val} ->v∈l->v.sz<=br l
 |w:: l,v,h=>by
  simp only[br];rcases Qm.1 h with rfl|h
  ·omega
  ·have:=eJ h;omega
def Val.sz_pos(v:Val):1<=v.sz:=by cases v;simp[Val.sz];omega
theorem fI:(l:List Val)->l.length<=br l
 |[]=>by simp
 |v:: l=>by have:=fI l;have:=v.sz_pos;simp only[br,P4];omega
def Val.sz_names(v:Val):v.names.length<=v.sz:=by cases v;simp[Val.sz,Val.names];omega
def Val.sz_values(v:Val):br v.values<v.sz:=by cases v;simp[Val.sz,Val.values];omega
def Val.sz_len(v:Val):v.values.length<v.sz:=Nat.lt_of_le_of_lt (fI _) v.sz_values
def Pn{v x:Val}(h:x∈v.values):x.sz<v.sz:=Nat.lt_of_le_of_lt (eJ h) v.sz_values
end Ap
end Go.Av
namespace Go.Av
def bj{α:Type}(F:α->Bool):List α->Int->Int
 |[],_=>-1
 |x:: l,i=>if F x=true then i else bj F l (i+1)
theorem xl{α:Type}(F:α->Bool):(l:List α)->(i:Int)->0<=i->(0<=bj F l i↔l.any F=true)
 |[],i,_=>by simp[bj]
 |x:: l,i,h=>by
  simp only[bj];split
  ·rename_i hx;simp[hx,h]
  ·rename_i hx;rw[xl F l (i+1) (by omega)];simp[hx]
def mw{α:Type}(F:α->Bool)(l:List α):decide (0<=bj F l 0)=l.any F:=by
 have:=xl F l 0 (by omega)
 cases h:l.any F with
 |true=>simp[this.2 h]
 |false=>simp only[Rm];intro hh;rw[this.1 hh]at h;cases h
@[simp] theorem Kg(a b:Nat):((a:Int)== (b:Int))=(a== b):=by rw[QG];simp;omega
@[simp] theorem Ij(a:Nat):((a:Int)== 0)=(a== 0):=by rw[QG];simp
@[simp] theorem Kh(a b:Nat):((a:Int) != (b:Int))=(a != b):=by rw[QG];simp;omega
def cS{α β:Type}(F:α->β->Bool):List α->List β->Bool
 |x:: l,y:: r=>F x y&&cS F l r
 |[],[]=>true
 |_,_=>false
def oF{α β:Type}(F:α->β->Bool)(a:List α)(b:List β)(i:Nat)(h1:i<a.length)(h2:i<b.length):cS F (a.drop i) (b.drop i)=(F a[i] b[i]&&cS F (a.drop (i+1)) (b.drop (i+1))):=by
 rw[P9 h1,P9 h2];rfl
theorem eZ{α β:Type}(F:α->β->Bool):(a:List α)->(b:List β)->a.length≠b.length->cS F a b=false
 |[],[],h=>absurd rfl h
 |[],_:: _,_=>rfl
 |_:: _,[],_=>rfl
 |x:: a,y:: b,h=>by
  have:=eZ F a b (by simpa using h)
  simp[cS,this]
end Go.Av
namespace Go.Av
open Ap
@[simp high] theorem KM(x:Val):aW 4 (Val.av x)=ay (Val.av x):=by rw[bu (cL x),cw,xd]
@[simp high] theorem HC(x:Val):az 4 [] (Val.av x)=ay (Val.av x):=by rw[cT (cL x),cw,xd]
@[simp high] theorem KG(x:Exp):aW 6 (Exp.av x)=ay (Exp.av x):=by rw[bu (kC x),aX,wX]
@[simp high] theorem Ht(x:Exp):az 6 [] (Exp.av x)=ay (Exp.av x):=by rw[cT (kC x),aX,wX]
@[simp high] theorem KH(x:cE):aW 3 (bZ x)=ay (bZ x):=by rw[bu (nY x),jv,wY]
@[simp high] theorem Hu(x:cE):az 3 [] (bZ x)=ay (bZ x):=by rw[cT (nY x),jv,wY]
@[simp high] theorem kQ(x:Fun):aW 12 (Fun.av x)=ay (Fun.av x):=by rw[bu (kD x),ib,wZ]
@[simp high] theorem Hv(x:Fun):az 12 [] (Fun.av x)=ay (Fun.av x):=by rw[cT (kD x),ib,wZ]
@[simp high] theorem KI(x:Mod):aW 9 (Mod.av x)=ay (Mod.av x):=by rw[bu (kE x),gw,xa]
@[simp high] theorem Hw(x:Mod):az 9 [] (Mod.av x)=ay (Mod.av x):=by rw[cT (kE x),gw,xa]
@[simp high] theorem J9(x:Vars):aW 2 (Vars.av x)=ay (Vars.av x):=by rw[bu (uf x),pm,tM]
@[simp high] theorem He(x:Vars):az 2 [] (Vars.av x)=ay (Vars.av x):=by rw[cT (uf x),pm,tM]
@[simp high] theorem J8(x:Deed):aW 3 (Deed.av x)=ay (Deed.av x):=by rw[bu (my x),pk,tL]
@[simp high] theorem Hd(x:Deed):az 3 [] (Deed.av x)=ay (Deed.av x):=by rw[cT (my x),pk,tL]
@[simp high] theorem J7(x:Ap.Call):aW 3 (Ap.Call.av x)=ay (Ap.Call.av x):=by rw[bu (ue x),pj,tK]
@[simp high] theorem Hc(x:Ap.Call):az 3 [] (Ap.Call.av x)=ay (Ap.Call.av x):=by rw[cT (ue x),pj,tK]
@[simp high] theorem KJ(x:Ap.Out):aW 8 (Ap.Out.av x)=ay (Ap.Out.av x):=by rw[bu (xP x),qL,xb]
@[simp high] theorem Hy(x:Ap.Out):az 8 [] (Ap.Out.av x)=ay (Ap.Out.av x):=by rw[cT (xP x),qL,xb]
@[simp] theorem nZ(t:Ty):cz 2 t.av=true:=by simp[cz,bM,bm]
@[simp high] theorem LO(x:Ty):aW 2 (Ty.av x)=ay (Ty.av x):=by rw[bu (nZ x),mh,uW]
@[simp high] theorem Ka(x:Ty):az 2 [] (Ty.av x)=ay (Ty.av x):=by rw[cT (nZ x),mh,uW]
end Go.Av
namespace Go.Av
@[simp] theorem Hg(c:Prop)[Decidable c](a b:Bool):(if c then(ay (.bool a):M AV)else ay (.bool b))=ay (.bool (if c then a else b)):=by split<;>rfl
@[simp] theorem HX(c:Prop)[Decidable c](a b:Int):(if c then(ay (.int .i64 a):M AV)else ay (.int .i64 b))=ay (.int .i64 (if c then a else b)):=by split<;>rfl
def iy{F:(List AV->M AV)->List AV->M AV}(hF:∀vs,ao F vs=F (ao F) vs)(st:Nat->List AV)(n:Nat)(G:Nat->Bool)(hend:F (ao F) (st n)=ay (.bool true))(hstep:∀k,k<n->F (ao F) (st k)=if G k=true then ao F (st (k+1))else ay (.bool false)):
  ∀k,k<=n->ao F (st k)=ay (.bool ((List.range' k (n-k)).all G)):=by
 have key:∀r k,n-k=r->k<=n->ao F (st k)=ay (.bool ((List.range' k r).all G)):=by
  intro r
  induction r with
  |zero=>
   intro k hr hk;obtain rfl:k=n:=by omega
   rw[hF,hend];rfl
  |succ r ih=>
   intro k hr hk;rw[hF,hstep k (by omega),ih (k+1) (by omega) (by omega)];simp only[R8,QH];cases G k<;>rfl
 exact fun k hk=>key (n-k) k rfl hk
def kP{α:Type}[Inhabited α](P:α->Bool)(l:List α):(List.range' 0 l.length).all (fun k=>P l[k]!)=l.all P:=by
 rw[QG];simp only[P7,SH];constructor
 ·intro h x hx;obtain⟨i,hi,rfl⟩:=List.getElem_of_mem hx
  have:=h i ⟨Qy _,by omega⟩
  rwa [PY l i hi]at this
 ·intro h k hk;have hk':k<l.length:=by omega
  rw[PY l k hk'];exact h _ (P2 hk')
theorem gx{α β:Type}[Inhabited α][Inhabited β](P:α->β->Bool):(a:List α)->(b:List β)->a.length=b.length->(List.range' 0 a.length).all (fun k=>P a[k]! b[k]!)=cS P a b
 |[],[],_=>rfl
 | x:: a,y:: b,h=>by
  have ih:=gx P a b (by simpa using h);simp only[P4,R8,QH,cS];congr 1;rw[<- ih];rw[QG];simp only[P7,SH];constructor
  ·intro h k hk
   have:=h (k+1) (by omega)
   simpa using this
  ·intro h k hk;obtain⟨j,rfl⟩:∃j,k=j+1:=⟨k-1,by omega⟩;simpa using h j (by omega)
 |[],_:: _,h=>by simp at h
 |_:: _,[],h=>by simp at h
theorem wi{α:Type}[BEq α]:(a b:List α)->(a== b)=cS (fun x y=>x== y) a b
 |[],[]=>rfl
 |[],_:: _=>rfl
 |_:: _,[]=>rfl
 |x:: a,y:: b=>by
  show (x== y&&(a== b))=_;rw[wi a b];rfl
def C0{T:TT}{t e:Nat}{ti ei:TI}(ht:T t=some ti)(hk:ti.kind= .slice e)(he:T e=some ei)(es:List AV){n:Int}(h0:0<=n)(h1:n<=es.length):cV T t (.sl es) none (some (.int .i64 n)) none=some (.sl (es.take n.toNat)):=by
 unfold cV;rw[ht];simp[hk,he,cg,h0,h1]
def pZ{T:TT}{t e:Nat}{ti ei:TI}(ht:T t=some ti)(hk:ti.kind= .slice e)(he:T e=some ei)(es:List AV):cV T t (.sl es) none (some (.int .i64 es.length)) (some (.int .i64 es.length))=some (.sl es):=by
 unfold cV;rw[ht];simp[hk,he,cg]
def C1{T:TT}{t e:Nat}{ti ei:TI}(ht:T t=some ti)(hk:ti.kind= .slice e)(he:T e=some ei)(es:List AV)(hok:eD ei.size es=true){n:Int}(h0:0<=n)(h1:n<=es.length):cV T t (.sl es) (some (.int .i64 n)) none none=some (.sl (es.drop n.toNat)):=by
 unfold cV;rw[ht];simp[hk,he,cg,h0,h1,hok]
def qR(s:List UInt8):Bool:=s.all fun b=>decide (b.toNat<128)
def gl(cs:List UInt8):List UInt8->Int->Int
 |[],_=>-1
 |b:: s,i=>if cs.contains b=true then i else gl cs s (i+1)
def jo:(FuncId->List AV->M AV)->List AV->M AV:=fun _ args=>match args with
 |[.str s,.str cs]=>ah (bif decide (s.length<4294967281)&&decide (cs.length<1000)&&qR cs then some (.int .i64 (gl cs s 0))else none)
 |_=>f7
def strsOf:List AV->Option (List (List UInt8))
 |[]=>some []
 |.str s:: r=>(strsOf r).map (s:: ·)
 |_=>none
def b6(sep:List UInt8):List (List UInt8)->List UInt8
 |[]=>[]
 |[a]=>a
 |a:: b:: l=>a++(sep++b6 sep (b:: l))
def tS:(FuncId->List AV->M AV)->List AV->M AV:=fun _ args=>match args with
 |[.sl es,.str sep]=>ah (match strsOf es with
  |some l=>bif decide (l.length<=140737488355328)&&decide ((b6 sep l).length<=140737488355328)then some (.str (b6 sep l))else none
  |none=>none)
 |_=>f7
def cN(b:UInt8):Bool:=(decide (97<=b.toNat)&&decide (b.toNat<=122))||(decide (65<=b.toNat)&&decide (b.toNat<=90))||(decide (48<=b.toNat)&&decide (b.toNat<=57))||decide (b.toNat=95)
def eW(s:List UInt8):Bool:=!s.isEmpty&&s.all cN
def oZ:(FuncId->List AV->M AV)->List AV->M AV:=fun _ args=>match args with
 |[.str s]=>ah (bif decide (s.length<4294967281)then some (.bool (eW s))else none)
 |_=>f7
def rf:AV:=.tup [.agg [.int .i64 0,.int .i64 0,.sl [],.sl []],.int .i64 34]
def gM(ft:TypeId):R AV->R AV
 |.ok v h=>.ok v h
 |.pan (.iface t (.agg [])) h=>bif Nat.beq t ft then .ok rf []else .fail
 |.pan _ _=>.fail
 |.fail=>.fail
def pM:M AV:=fun h=>match h[0]? with
 |some [AV.str s]=>.ok (.str s) h
 |_=>.fail
def B5(sz:Nat)(v:AV):M AV:=fun h=>bif cz sz v then .ok v h else .fail
def zd:AV->Option AV
 |.str s=>some (.bool s.isEmpty)
 |_=>none
def uj(ft:TypeId)(value has:FuncId)(call:FuncId->List AV->M AV)(t:AV):M AV:=
 af (call value [.hp 0 0,.int .i64 4]) fun v=>af (B5 4 v) fun _=>af pM fun s=>af (ah (zd s)) fun b=>
  aA b (af (call has [t,v]) fun r=>aA r (ay (.tup [.agg (aa v),.int .i64 0])) (eI (.iface ft (.agg [])))) (eI (.iface ft (.agg [])))
def oi(ft:TypeId)(value has:FuncId)(call:FuncId->List AV->M AV):List AV->M AV:=fun args h=>match args,h with
 |[t,.str s],[]=>bif cz 2 t then gM ft (uj ft value has call t [[AV.str s]])else .fail
 |_,_=>.fail
def sn(ft:TypeId)(value has:FuncId):(FuncId->List AV->M AV)->List AV->M AV:=fun call=>iW (oi ft value has call)
def dL.cond{b:AV}{x y:M AV}{xs ys:Nat->M AV}(hx:dL x xs)(hy:dL y ys):dL (aA b x y) fun n=>aA b (xs n) (ys n):=by
 unfold aA;split
 ·exact hx
 ·exact hy
 ·exact ba _
def CQ(ft:TypeId)(value has:FuncId)(call:FuncId->List AV->M AV)(calls:Nat->FuncId->List AV->M AV)(hc:∀f,bG (call f) fun n=>calls n f):bG (sn ft value has call) fun n=>sn ft value has (calls n):=by
 have hI:bG (oi ft value has call) fun n=>oi ft value has (calls n):=by
  intro args h;rcases args with _|⟨t,_|⟨x,_|⟨y,r⟩⟩⟩
  ·exact ba (fun _=>.fail) h
  ·exact ba (fun _=>.fail) h
  ·have hB:dL (uj ft value has call t) fun n=>uj ft value has (calls n) t:=
    dL.bnd (hc value _) fun v=>dL.bnd (ba _) fun _=>dL.bnd (ba _) fun s=>dL.bnd (ba _) fun b=>dL.cond (dL.bnd (hc has _) fun r=>dL.cond (ba _) (ba _)) (ba _)
   cases x
   case str s=>
    cases h with
    |nil=>exact xT (fun r=>bif cz 2 t then gM ft r else .fail) (by cases cz 2 t<;>rfl) hB [[AV.str s]]
    |cons a b=>exact ba (fun _=>.fail) (a:: b)
   all_goals exact ba (fun _=>.fail) h
  ·cases x<;>exact ba (fun _=>.fail) h
 intro args h;obtain⟨h1,h2⟩:=hI (eM aB args) []
 (try dsimp only at h1 h2)
 refine⟨fun hne=>?_,fun n hne=>?_⟩
 ·obtain⟨N,hN⟩:=h1 (fun hf=>hne (by show iW _ _ _=_;unfold iW;rw[hf]));refine⟨N,fun n hn=>?_⟩;show iW _ _ _=iW _ _ _;unfold iW;rw[hN n hn]
 ·have:=h2 n (fun hf=>hne (by show iW _ _ _=_;unfold iW;rw[hf]))
  show iW _ _ _=iW _ _ _;unfold iW;rw[this]
end Go.Av
namespace Go.Av.Ap
def Db(l:List Ty):AV:=.sl (l.map Ty.av)
structure Sig where
 name:aR
 params:List Ty
 result:Ty
 effects:Int
 deriving Inhabited
structure Face where
 module:aR
 funcs:List Sig
 deriving Inhabited
structure Vsn where
 major:Int
 minor:Int
 patch:Int
 deriving Inhabited,DecidableEq
def Sig.cells(s:Sig):List AV:=[.str s.name,Db s.params,.int .i64 s.result.kind,bm s.result.fields,.int .i64 s.effects]
def Sig.av(s:Sig):AV:=.agg s.cells
def sigs(l:List Sig):AV:=.sl (l.map Sig.av)
def Face.cells(f:Face):List AV:=[.str f.module,sigs f.funcs]
def Face.av(f:Face):AV:=.agg f.cells
def FE(l:List Face):AV:=.sl (l.map Face.av)
def Vsn.av(v:Vsn):AV:=.agg [.int .i64 v.major,.int .i64 v.minor,.int .i64 v.patch]
@[simp] theorem qM(s:Sig):aa s.av=[.str s.name,Db s.params,.int .i64 s.result.kind,bm s.result.fields,.int .i64 s.effects]:=rfl
@[simp] theorem IU(f:Face):aa f.av=[.str f.module,sigs f.funcs]:=rfl
@[simp] theorem Kx(v:Vsn):aa v.av=[.int .i64 v.major,.int .i64 v.minor,.int .i64 v.patch]:=rfl
@[simp] theorem xc(s:Sig):AV.agg [.str s.name,Db s.params,.int .i64 s.result.kind,bm s.result.fields,.int .i64 s.effects]=s.av:=rfl
@[simp] theorem LP(f:Face):AV.agg [.str f.module,sigs f.funcs]=f.av:=rfl
@[simp] theorem ML(v:Vsn):AV.agg [.int .i64 v.major,.int .i64 v.minor,.int .i64 v.patch]=v.av:=rfl
@[simp] theorem nZ(t:Ty):cz 2 t.av=true:=by simp[cz,bM,bm]
@[simp] theorem M1(l:List Ty):eD 2 (l.map Ty.av)=true:=eT nZ l
@[simp] theorem Nh(s:Sig):dk s.av=some 5:=rfl
@[simp] theorem L6(s:Face):dk s.av=some 2:=rfl
@[simp] theorem Nj(s:Vsn):dk s.av=some 3:=rfl
@[simp] theorem r9(s:Sig):cz 5 s.av=true:=by simp[cz,bM,bm,Db]
@[simp] theorem CF(s:Face):cz 2 s.av=true:=by simp[cz,bM,sigs]
@[simp] theorem M0(s:Vsn):cz 3 s.av=true:=rfl
@[simp] theorem L0(l:List Sig):eD 5 (l.map Sig.av)=true:=eT r9 l
@[simp] theorem Lp(l:List Face):eD 2 (l.map Face.av)=true:=eT CF l
@[simp] theorem KO(g:Nat->Nat->Nat->Nat->Bool->AV)(l:List Ty):cl g (Db l)=Db l:=by simp[Db,cl,fN g Ty.av (kp g)]
@[simp] theorem Fj(g:Nat->Nat->Nat->Nat->Bool->AV)(s:Sig):cl g s.av=s.av:=by unfold Sig.av Sig.cells;simp only[cl,eM,KO,gg]
@[simp] theorem HH(g:Nat->Nat->Nat->Nat->Bool->AV)(l:List Sig):cl g (sigs l)=sigs l:=by simp[sigs,cl,fN g Sig.av (Fj g)]
@[simp] theorem AO(g:Nat->Nat->Nat->Nat->Bool->AV)(s:Face):cl g s.av=s.av:=by unfold Face.av Face.cells;simp only[cl,eM,HH]
@[simp] theorem Mw(g:Nat->Nat->Nat->Nat->Bool->AV)(l:List Face):cl g (FE l)=FE l:=by simp[FE,cl,fN g Face.av (AO g)]
@[simp] theorem Oa(g:Nat->Nat->Nat->Nat->Bool->AV)(s:Vsn):cl g s.av=s.av:=by unfold Vsn.av;simp only[cl,eM]
@[simp] theorem NA(v:Ty):aJ (ay v.av)=ay v.av:=bw fun g=>kp g v
@[simp] theorem MS(v:Sig):aJ (ay v.av)=ay v.av:=bw fun g=>Fj g v
@[simp] theorem LQ(v:Face):aJ (ay v.av)=ay v.av:=bw fun g=>AO g v
end Go.Av.Ap
namespace Go.Av
open Go.RowKit Go.Sort Go.Proofs
section
variable [Dr]
end
section
variable {α:Type} [Inhabited α]
end
section
variable [Dr] {S:aP} {β:List cu} {h:Hp} {w w':World}
end
theorem PK{S:aP}{β:List cu}:{ps qs:List AV} ->{vs:List Value} ->bQ S β (ps++qs) vs->∃u v,vs=u++v/\bQ S β ps u/\bQ S β qs v
 |[],_,vs,h=>⟨[],vs,rfl,by simp[bQ],h⟩
 |_:: ps,qs,vs,h=>by
  simp only[QC,bQ]at h;obtain⟨x,xs,rfl,h1,h2⟩:=h;obtain⟨u,v,rfl,h3,h4⟩:=PK h2;exact⟨x:: u,v,rfl,by simp only[bQ];exact⟨x,u,rfl,h1,h3⟩,h4⟩
section
variable [Dr] {α:Type} [Inhabited α] {P:Program}
end
end Go.Av
namespace Go.Av
open Go.RowKit Go.Sort Go.Proofs
section
variable [Dr] {P:Program}
end
end Go.Av
namespace Go.Av.Sb
open Go Go.Shelf Go.RowKit Go.Lib Go.Proofs
variable {P:Program} {ρ:Ren}
theorem wG(n b0 b1 b2 b3:Nat)(h0:b0<256):(decodeN n b0 b1 b2 b3).1<55296\/(57343<(decodeN n b0 b1 b2 b3).1/\(decodeN n b0 b1 b2 b3).1<=1114111):=by
 unfold decodeN
 repeat' split
 all_goals (simp only;omega)
theorem zc(s:ByteArray)(i:Nat):Lib.validRune ((Utf8.decode s i).1:Int)=true:=by
 have h:=wG (s.size-i) (s.get! i).toNat (s.get! (i+1)).toNat (s.get! (i+2)).toNat (s.get! (i+3)).toNat (UInt8.toNat_lt _);rw[<- decode_at]at h;simp only[Lib.validRune,PW];omega
theorem FQ(s:ByteArray)(j:Nat)(h:j<s.size):s.get! j=s[j]'h:=by
 simp[ByteArray.get!,PY,h];rfl
theorem wH(s:ByteArray)(pos:Nat)(h:pos<s.size)(ha:128<=(s[pos]'h).toNat):∀k,k<(Utf8.decode s pos).2->pos+k<s.size/\128<=(s.get! (pos+k)).toNat:=by
 have h0:128<=(s.get! (pos+0)).toNat:=by rw[Qu,FQ s pos h];exact ha
 have hn:¬(s.get! (pos+0)).toNat<128:=by omega
 intro k hk;simp only[Utf8.decode,hn,PP]at hk;have one:k<1->pos+k<s.size/\128<=(s.get! (pos+k)).toNat:=fun h1=>by
  have:k=0:=by omega
  subst this;exact⟨h,h0⟩
 split at hk
 ·rename_i c;simp only[PO,PW,Qk]at c;split at hk
  ·match k,hk with
   |0,_=>exact⟨h,h0⟩
   |1,_=>exact⟨c.2.1,by omega⟩
  ·exact one hk
 ·split at hk
  ·rename_i c;simp only[PO,PW,Qk]at c;split at hk
   ·match k,hk with
    |0,_=>exact⟨h,h0⟩
    |1,_=>exact⟨c.1.2.1,by omega⟩
    |2,_=>exact⟨c.2.1,by omega⟩
   ·exact one hk
  ·split at hk
   ·rename_i c;simp only[PO,PW,Qk]at c;split at hk
    ·match k,hk with
     |0,_=>exact⟨h,h0⟩
     |1,_=>exact⟨c.1.1.2.1,by omega⟩
     |2,_=>exact⟨c.1.2.1,by omega⟩
     |3,_=>exact⟨c.2.1,by omega⟩
    ·exact one hk
   ·exact one hk
theorem indexByte_none{y:UInt8}:∀ {l:List UInt8},y ∉ l->Lib.indexByte l y= -1
 |[],_=>rfl
 |b:: l,h=>by
  rw[Qm,not_or]at h;have hb:(b== y)=false:=by simpa using fun e=>h.1 e.symm
  rw[Lib.indexByte,hb,indexByte_none h.2];rfl
set_option maxHeartbeats 4000000 in
set_option maxRecDepth 1000000 in
theorem rF(L:Lays.n152 P ρ)(s:ByteArray)(r:Int)(w:World)(hr:128<=r)(hv:Lib.validRune r=true)(_hs:s.size<4294967281)(hascii:∀(j:Nat) b,s.data.toList[j]? = some b->b.toNat<128):
  Calls P (ρ.f 152) #[.string s,.int .i32 r] w fun e w'=>e= .returned (.int .i64 (-1))/\Below w.heap.size w w':=by
 have HA:Aside (∀(j:Nat) b,s.data.toList[j]? = some b->b.toNat<128):=hascii;clear hascii;have mixed:=L.mixed;have t3:=L.t3;have a3:=L.a3;have z3:=L.z3;have v3:=L.v3;have t4:=L.t4;have a4:=L.a4;have z4:=L.z4;have v4:=L.v4;have t5:=L.t5;have a5:=L.a5;have z5:=L.z5;have v5:=L.v5;have t9:=L.t9;have a9:=L.a9;have z9:=L.z9;have v9:=L.v9;have t21:=L.t21;have a21:=L.a21;have z21:=L.z21;have v21:=L.v21;have e119:∀args w,(callFunc (ρ.f 119) args).run P w= .ok (.enter (ρ.f 119) args) w:=enters_of L.f119 (by kernel_rfl) rfl;have e137:∀args w,(callFunc (ρ.f 137) args).run P w= .ok (.enter (ρ.f 137) args) w:=enters_of L.f137 (by kernel_rfl) rfl;have hlo:¬r<128:=by omega
 by_cases he:r=65533
 ·subst he
  go_enter L.f152,Body.n152_ntmps ρ
  go_wp2
  go_loopg [5,6] s.size (fun g _ _ wx=>∃i:Nat,i+g=s.size/\wx=w.iter s i)
  case atStart=>exact⟨0,by omega,rfl⟩
  case round=>
   obtain⟨i,hig,rfl⟩:=hrel;cases gk with
   |zero=>
    obtain rfl:i=s.size:=by omega
    have hnx:=run_next_end (P:=P) w s s.size
    go_wp2
    go_ret
    exact⟨rfl,(Below.refl _ _).alloc (P5 _) _⟩
   |succ g=>
    have hi:i<s.size:=by omega
    obtain⟨x,hx⟩:∃x:UInt8,s[i]'hi=x:=⟨_,rfl⟩;have hxl:s.data.toList[i]? = some x:=by rw[<- hx];exact Lib.data_getElem? s i hi
    have hx128:x.toNat<128:=HA.out i x hxl;have hnx:=fun ty=>run_next_ascii (P:=P) w s i ty hi (by rw[hx];exact hx128);rw[hx]at hnx;clear hxl hx;have hne:¬((x.toNat:Int)=65533):=by omega
    go_wp2
    go_roundg g
    case measure=>omega
    case rel=>exact⟨i+1,by omega,rfl⟩
 ·have hvu:Utf8.valid r=true:=by
   simp only[Lib.validRune,PW]at hv;simp only[Utf8.valid,QF,PO,PW];omega
  obtain⟨n2,n4,hlast⟩:=encode_facts r hvu hr;obtain⟨rs,hrs⟩:∃rs,rs=Utf8.encode r:=⟨_,rfl⟩;rw[<- hrs]at n2 n4 hlast;have hVR:Calls P (ρ.f 119) #[.int .i32 r] w fun e w'=>e= .returned (.bool true)/\w'=w:=(Any.utf8_ValidRune { L with } r w).mono fun e w' h=>by
   have h1:=h.1;rw[show Lib.validRune r=true from hv]at h1;exact⟨h1,h.2⟩
  have hcv:∀w,(convert (ρ.t 21) (ρ.t 9) (.int .i32 r)).run P w= .ok (.string rs) w:=fun w=>by
   rw[hrs];exact run_convert_int_string w _ _ _ _ (by rw[t21];rfl) t9
  clear hrs;have h21:(P.underlying (ρ.t 21)).isSome=true:=by rw[t21];rfl
  go_enter L.f152,Body.n152_ntmps ρ
  go_wp2_with (go_at_fn (ρ.f 119);refine hVR.mono ?_;rintro e w' ⟨rfl,hw⟩;rw[hw])
  obtain⟨k,hk⟩:∃k:Nat,rs.size=k+1:=⟨rs.size-1,by omega⟩;have hkz:(rs.size:Int)-1=(k:Int):=by omega
  have hkl:k<rs.size:=by omega
  obtain⟨y,hy⟩:∃y:UInt8,rs[k]'hkl=y:=⟨_,rfl⟩;have hy128:128<=y.toNat:=by
   have:=hlast (by omega)
   have e:rs.size-1=k:=by omega
   simp only[e,hy]at this;exact this
  clear hlast;refine wp_scope_straight ?_
  go_wp2
  go_loopg [9,10,11,12] 1 (fun g s9 _ _ _ wx=>s9= .int .i64 (k:Int)/\wx=w)
  case atStart=>exact⟨rfl,rfl⟩
  case round=>
   obtain⟨rfl,rfl⟩:=hrel;by_cases hks:k<s.size
   ·obtain⟨x,hx⟩:∃x:UInt8,s[k]'hks=x:=⟨_,rfl⟩;have hxl:s.data.toList[k]? = some x:=by rw[<- hx];exact Lib.data_getElem? s k hks
    have hx128:x.toNat<128:=HA.out k x hxl;have hxy:¬((x.toNat:Int)=(y.toNat:Int)):=by omega
    have hkz2:(k:Int)<(s.size:Int):=by omega
    go_wp2
    refine wp_scope_straight ?_
    go_wp2_with (go_at_fn (ρ.f 137);refine (Any.strings_IndexByte { L with } _ _ _).mono ?_;rintro e w' ⟨rfl,hw⟩;rw[hw])
    have u9:=run_underlying L.t9;have hw1:IntKind.i64.wrap ((k:Int)+1)=(k:Int)+1:=by rw[IntKind.wrap_i64];omega
    have hk1:(k:Int)+1<=(s.size:Int):=by omega
    have hk0:(0:Int)<=(k:Int)+1:=by omega
    have htn:((k:Int)+1).toNat=k+1:=by omega
    have hxy':((x.toNat:Int) != (y.toNat:Int))=true:=Rf.2 hxy
    go_region_o
    go_wp2
    go_region_with_o (refine (Any.strings_IndexByte { L with } _ _ _).mono ?_;rintro e w' ⟨rfl,rfl⟩)
    have hib:Lib.indexByte (List.take (s.size-(k+1)) (List.drop (k+1) s.data.toList)) y= -1:=indexByte_none fun hm=>by
     obtain⟨j,hj⟩:=Ss.1 (List.mem_of_mem_drop (R7 hm))
     have:=HA.out j y hj
     omega
    rw[hib]
    go_wp2
    dsimp only[Exit.noGoto,Exit.inBlock,Exit.then]
    go_ret
    exact⟨rfl,(Below.refl _ _).drew.drew⟩
   ·have hkz2:¬(k:Int)<(s.size:Int):=by omega
    go_wp2
    go_ret
    exact⟨rfl,Below.refl _ _⟩
theorem below_iterAt{B k:Nat}{a w:World}{s:ByteArray}{p:Nat}(h:Below B a w)(hk:B<=k):Below B a (w.iterAt k s p):=
 ⟨h.os,h.tape,h.output,by show a.heap.size<=(w.heap.setIfInBounds k _).size;rw[Array.size_setIfInBounds];exact h.size,fun j hj=>by
  rw[<- h.block j hj];show (w.heap.setIfInBounds k _)[j]? = _;rw[RB];rw[if_neg (by omega)]⟩
theorem zP{s chars:List UInt8}{i d:Nat}(h:Lib.NoAny s chars i)(hs:∀k,k<d->∀b,s[i+k]? = some b->chars.contains b=false):Lib.NoAny s chars (i+d):=fun j b hj hb=>by
 by_cases hi:j<i
 ·exact h j b hi hb
 ·exact hs (j-i) (by omega) b (by rw[show i+(j-i)=j by omega];exact hb)
set_option maxHeartbeats 8000000 in
set_option maxRecDepth 1000000 in
theorem rE(L:Lays.n153 P ρ)(s chars:ByteArray)(w:World)(h2:2<=chars.size)(h8:s.size<=8)(hcs:chars.size<4294967281)(hascii:∀(j:Nat) b,chars.data.toList[j]? = some b->b.toNat<128):
  Calls P (ρ.f 153) #[.string s,.string chars] w fun e w'=>e= .returned (.int .i64 (Lib.indexAny s.data.toList chars.data.toList))/\Below w.heap.size w w':=by
 have HA:Aside (∀(j:Nat) b,chars.data.toList[j]? = some b->b.toNat<128):=hascii;clear hascii;have hemp:chars.toList.isEmpty=false:=by
  rw[Lib.toList_data];cases h:chars.data.toList with
  |nil=>have:=Lib.size_eq chars;rw[h,Qr]at this;omega
  |cons _ _=>rfl
 have hn1:((chars.size:Int)== 1)=false:=Qj.2 (by omega);have h8z:decide ((8:Int)<(s.size:Int))=false:=PX (by omega);have t3:=L.t3;have a3:=L.a3;have z3:=L.z3;have v3:=L.v3;have t4:=L.t4;have a4:=L.a4;have z4:=L.z4;have v4:=L.v4;have t5:=L.t5;have a5:=L.a5;have z5:=L.z5;have v5:=L.v5;have t9:=L.t9;have a9:=L.a9;have z9:=L.z9;have v9:=L.v9;have t21:=L.t21;have a21:=L.a21;have z21:=L.z21;have v21:=L.v21;have e152:∀args w,(callFunc (ρ.f 152) args).run P w= .ok (.enter (ρ.f 152) args) w:=enters_of L.f152 (by kernel_rfl) rfl;have e226:∀args w,(callFunc (ρ.f 226) args).run P w= .ok (.enter (ρ.f 226) args) w:=enters_of L.f226 (by kernel_rfl) rfl
 go_enter L.f153,Body.n153_ntmps ρ
 go_wp2_with (go_at_fn (ρ.f 226);refine (Any.strings_shouldUseASCIISet { L with } _ _).mono ?_;rintro e w' ⟨rfl,hw⟩;rw[hw,h8z])
 go_loopg [9,10] s.size (fun g _ _ wx=>∃i:Nat,i+g=s.size/\wx.heap[w.heap.size]? = some (.stringIter s i)/\Below w.heap.size w wx/\Lib.NoAny s.data.toList chars.data.toList i)
 case atStart=>exact⟨0,by omega,World.iter_heap w s 0,(Below.refl _ _).alloc (P5 _) _,Lib.NoAny.zero _ _⟩
 case round=>
  obtain⟨i,hig,hit,hbel,hno⟩:=hrel;have HN:Aside (Lib.NoAny s.data.toList chars.data.toList i):=hno;have HB:Aside (Below w.heap.size w wr):=hbel;have HI:Aside (wr.heap[w.heap.size]? = some (.stringIter s i)):=hit;clear hno hbel hit;by_cases hi:i<s.size
  ·obtain⟨x,hx⟩:∃x:UInt8,s[i]'hi=x:=⟨_,rfl⟩;have hxl:s.data.toList[i]? = some x:=by rw[<- hx];exact Lib.data_getElem? s i hi
   have Hx:Aside (s.data.toList[i]? = some x):=hxl;clear hxl;by_cases hx128:x.toNat<128
   ·have hnx:=fun ty=>run_next_ascii_at (P:=P) wr w.heap.size s i ty HI.out hi (by rw[hx];exact hx128);rw[hx]at hnx;clear hx;have hcon:=Lib.contains_iff_indexByte chars.data.toList x;have hback:((x.toNat:Int)).toNat.toUInt8=x:=by simp
    cases hin:chars.data.toList.contains x
    ·rw[hin]at hcon;have hlt:¬((0:Int)<=Lib.indexByte chars.data.toList x):=of_decide_eq_false hcon.symm;clear hcon
     go_wp2_with (go_at_fn (ρ.f 152);refine (Any.strings_IndexRune_ascii { L with } _ _ _ (by omega) (by omega)).mono ?_;rintro e w' ⟨rfl,hw⟩;rw[hw,hback])
     go_roundg (s.size-(i+1))
     case measure=>omega
     case rel=>exact⟨i+1,by omega,iterAt_heap _ _ _ _ _ HI.out,below_iterAt HB.out (P5 _),HN.out.succ Hx.out hin⟩
    ·rw[hin]at hcon;have hge:(0:Int)<=Lib.indexByte chars.data.toList x:=Ro hcon.symm;clear hcon
     go_wp2_with (go_at_fn (ρ.f 152);refine (Any.strings_IndexRune_ascii { L with } _ _ _ (by omega) (by omega)).mono ?_;rintro e w' ⟨rfl,hw⟩;rw[hw,hback])
     go_ret
     exact⟨by rw[Lib.indexAny_hit HN.out Hx.out hin];rfl,below_iterAt HB.out (P5 _)⟩
   ·have hnx:=fun ty=>run_next_any_at (P:=P) wr w.heap.size s i ty HI.out hi;obtain⟨q1,q2⟩:=decode_high s i hi (by rw[hx];omega);have q3:=zc s i;have q4:=wH s i hi (by rw[hx];omega);generalize Utf8.decode s i=rd at hnx q1 q2 q3 q4;obtain⟨r,d⟩:=rd;dsimp only at hnx q1 q2 q3 q4;have hd:=(q4 (d-1) (by omega)).1;have Q4:Aside (∀k,k<d->i+k<s.size/\128<=(s.get! (i+k)).toNat):=q4;clear q4 hx;have hneg:¬((0:Int)<=-1):=by omega
    go_wp2_with (go_at_fn (ρ.f 152);refine (rF { L with } _ _ _ (by omega) q3 hcs HA.out).mono ?_;rintro e w' ⟨rfl,hw⟩)
    have hI2:=iterAt_heap wr w.heap.size s i (i+d) HI.out;have hlt:w.heap.size<(wr.iterAt w.heap.size s (i+d)).heap.size:=(QY.1 hI2).1
    go_roundg (s.size-(i+d))
    case measure=>omega
    case rel=>
     refine⟨i+d,by omega,(hw.block _ hlt).trans hI2,(below_iterAt HB.out (P5 _)).trans (hw.mono (Nat.le_of_lt hlt)),zP HN.out fun k hk b hb=>?_⟩;obtain⟨g1,g2⟩:=Q4.out k hk;have hbe:b=s.get! (i+k):=by
      rw[Lib.data_getElem? s (i+k) g1]at hb;cases hb;exact (FQ s (i+k) g1).symm
     cases hc:chars.data.toList.contains b with
     |false=>rfl
     |true=>
      obtain⟨j,hj⟩:=Ss.1 (Su.1 hc)
      have:=HA.out j b hj
      rw[hbe]at this;omega
  ·have hnx:=run_next_end_at (P:=P) wr w.heap.size s i (h:=hi) (hk:=HI.out)
   go_wp2
   go_ret
   exact⟨by rw[Lib.indexAny_none (by rw[<- Lib.size_eq,show s.size=i by omega];exact HN.out)];rfl,HB.out⟩
theorem vf(L:Lays.n153 P ρ)(h116:(P.info? (ρ.t 116)).map (fun i=>(i.zero,i.size))=some (some (.agg (Array.replicate 256 (.bool false))),256))(s chars:ByteArray)(w:World)(hs:s.size<4294967281)(hcs:chars.size<4294967281)(hac:∀(j:Nat) b,chars.data.toList[j]? = some b->b.toNat<128):
  Calls P (ρ.f 153) #[.string s,.string chars] w fun e w'=>e= .returned (.int .i64 (Lib.indexAny s.data.toList chars.data.toList))/\Below w.heap.size w w':=by
 by_cases h0:chars.size=0
 ·exact (Any.strings_IndexAny_none L s chars w h0).mono fun e w' ⟨h1,h2⟩=>⟨h1,h2▸Below.refl _ _⟩
 by_cases h1:chars.size=1
 ·exact (Any.strings_IndexAny_one L s chars w h1 hac).mono fun e w' ⟨h1,h2⟩=>⟨h1,h2▸Below.refl _ _⟩
 by_cases h8:s.size<=8
 ·exact rE L s chars w (by omega) h8 hcs hac
 ·refine (Any.strings_IndexAny_long L (zero_of_info h116).1 (zero_of_info h116).2 s chars w (by omega) (by omega) hs hcs hac).mono fun e w' ⟨h1,h2⟩=>⟨h1,?_⟩;rw[h2];exact ((Below.refl _ _).alloc (P5 _) _).alloc (by simp) _
end Go.Av.Sb
namespace Go.Av
variable [Dr]
theorem pr{P:Program}{cx:Cx}{own:Option Nat}(hT:TOK P cx.T)(hC:df P cx.own cx.call)(hI:IsoCall cx){f:FuncId}{fn:Func}(hf:P.funcs[f]? = some fn)(hnt:cx.nt=fn.ntmps){E:List AV->Hp->R AV}(h0:∀h,E [] h= .ok (.sl []) h)(h1:∀e es h,dD cx (dS 0) fn own [.sl (e:: es)] h=E (e:: es) h)(h2:∀h,dD cx (dS 0) fn own [.hn] h= .ok (.sl []) h)(h3:∀l off h,dD cx (dS 0) fn own [.hs l off 0 1 false] h= .ok (.sl []) h){es:List AV}{h:Hp}{S:aP}{β:List cu}{w:World}{vs:List Value}(hr:E es h≠.fail)(hg:qp S β h w)(hw:Wf S w)(hh:cP S β w h)(hv:bQ S β [.sl es] vs):Calls P f vs.toArray w (eo own S β h w (E es h))/\fn.body.isSome=true:=by
 cases es with
 |cons e es=>
  rw[<- h1]at hr |-;exact jy hT hC hI 0 hf hnt hr hg hw hh hv
 | nil=>
  rw[h0];simp only[bQ]at hv;obtain⟨v,_,rfl,hv,rfl⟩:=hv;have hv0:=hv;simp only[VR]at hv;obtain⟨a,cap,rfl,hc,hn,hq⟩:=hv;cases a with
  |none=>
   have hcap:=hn rfl;subst hcap;have hv2:bQ S β [.hn] [.slice none ([]:List AV).length 0]:=by simp[bQ,VR]
   have:=jy (own:=own) hT hC hI 0 hf hnt (args:=[.hn]) (h:=h) (by rw[h2];simp) hg hw hh hv2
   rw[h2]at this;exact this
  | some q=>
   obtain⟨hs,_⟩:=hq q rfl;have hX:cP S [(q.block,q.off+cap)] w [[]]:=⟨rfl,fun _=>.no,fun l cs hl hne=>by
    cases l with
    |zero=>simp at hl;exact absurd hl hne
    |succ l=>simp at hl⟩
   have hE:∀b,¬cB [(q.block,q.off+cap)] [[]] b:=by
    rintro b ⟨l,cs,n,k1,k2,_⟩;cases l with
    |zero=>simp at k1;exact k2 k1
    |succ l=>simp at k1
   have hv2:bQ S [(q.block,q.off+cap)] [.hs 0 q.off 0 1 false] [.slice (some q) ([]:List AV).length cap]:=by
    simp only[bQ,VR];rcases QK cap with h0|h0
    ·subst h0;exact⟨_,_,rfl,.inr ⟨trivial,q,rfl⟩,rfl⟩
    ·have hq':q=⟨q.block,q.off,none⟩:=by
      have:=hs h0
      cases q;simp_all
     exact⟨_,_,rfl,.inl ⟨(q.block,q.off+cap),cap,rfl,(by show q.off+cap≠0;omega),by rw[<- hq'];rfl,Qy _,by simp⟩,rfl⟩
   have:=jy (own:=own) hT hC hI 0 hf hnt (args:=[.hs 0 q.off 0 1 false]) (h:=[[]]) (by rw[h3];simp) ⟨hg.1,fun b _=>hE b,hg.2.2⟩ hw hX hv2
   rw[h3]at this;refine⟨this.1.mono fun en w' hp=>?_,this.2⟩;obtain⟨S',β',v,k1,k2,k3,k4⟩:=hp;obtain⟨S2,j1,j2,j3⟩:=A3 hw hh hE k3;exact⟨S2,β,v,k1,j2 (.sl []) v k2,j1,fun sz hsz=>j3 sz v (k4 sz hsz)⟩
end Go.Av
namespace Go.Av
variable [Dr]
open Go.RowKit Go.WideShapes Go.ChangeShapes
theorem Left.below{S S':aP}{β β':List cu}{w w':World}{h':Hp}(L:Left (cB [] []) S β w S' β' w' h'):Below w.heap.size w w':=
 ⟨L.gro.os,L.gro.tape,L.gro.out,L.gro.size,fun k hk=>(L.keep k hk (by rintro⟨l,_,_,h1,_⟩;simp at h1)).1⟩
def lG(W:World):aP:=fun b o=>W.cell? ⟨b,o,none⟩
omit [Dr]in
theorem Hk(W:World):Wf (lG W) W:=fun _ _ _ h=>h
omit [Dr]in
theorem Ch{W:World}(h:GOKw W):qp (lG W) [] [] W:=⟨h,fun b _ ho=>by obtain⟨l,_,_,h1,_⟩:=ho;simp at h1,IF h⟩
theorem Co{P:Program}{p:Pg}(G:GoodPg P p)(hO:fj p){f:FuncId}{args:List AV}{vs:List Value}{W:World}(hg:GOKw W)(hv:bQ (lG W) [] args vs)(ht:aj p f args []= .ok (.bool true) []):Calls P f vs.toArray W fun e W'=>e= .returned (.bool true)/\Below W.heap.size W W':=by
 have h:=(wz G hO f args [] (lG W) [] W vs (by rw[ht];simp) (Ch hg) (Hk W) ⟨rfl,fun _=>.no,fun l cs hl=>by simp at hl⟩ hv).1;rw[ht]at h;refine h.mono fun e W' hp=>?_;obtain⟨S',β',v,rfl,hv,L,_⟩:=hp;simp only[VR]at hv;subst hv;exact⟨rfl,L.below⟩
section
variable {H:Type} {enc:TypeId×Value->H} {P:Program}
omit [Dr]in
theorem s5{f:Func}{s:ChangeSpec}{apart fresh handsOn again:Bool}{W W':World}{args:Array Value}{v:Value}{ds gs:List (DataW H)}{before pa pv:List MemPlace}(hW:DataW.Whole enc P f.params.toList s.vars apart W args.toList ds gs before)(hres:∀(b:Nat)(sp:Nat->Bool)(hd:Bool),DataW.TrodAll enc P W' b sp hd f.resultTypes.toList (v.resultList f.resultTypes.size) (s.fn H (ds++gs)).results [])(hargs:∀sp:Nat->Bool,(∀p∈before,sp p.block=true)->DataW.TrodAll enc P W' 0 sp true f.params.toList args.toList (s.fn H (ds++gs)).args pa)(hvars:∀sp:Nat->Bool,(∀p∈before,sp p.block=true)->DataW.TrodVars enc P W' sp s.vars (s.fn H (ds++gs)).vars pv)(hps:before=pa++pv)(hb:Below W.heap.size W W')(hok:∀(j:Nat)(t:TypeId)(r:Value),f.resultTypes[j]? = some t->(v.resultList f.resultTypes.size)[j]? = some r->Value.okWide P W' .any 0 t r):
  s.post enc P f apart fresh handsOn again W args v W':=by
 have hlt:∀p∈before,p.block<W.heap.size:=fun p hp=>hW.lt p hp;have hold:∀p∈before,(fun b=>decide (b<W.heap.size)) p.block=true:=fun p hp=>by simpa using hlt p hp
 refine⟨ds,gs,before,[],pa,pv,hW,hres _ _ _,hargs _ hold,hvars _ hold,World.keptBut_mono (fun p hp=>⟨hp,?_⟩) (hb.frame (· ∈before)),fun _=>?_⟩
 ·rw[hps,Qp]at hp;exact Or.inr hp
 ·obtain⟨_,_,_,_,_,hz,hn⟩:=hW;refine⟨hok,_,_,([]++pa)++pv,⟨[]++pa,pv,trodAll_append (hargs _ (fun _ _=>rfl)) (hres _ _ _),hvars _ (fun _ _=>rfl),rfl,?_,?_⟩,?_⟩
  ·intro b off hp;have hin:MemPlace.cell b off∈before:=by rw[hps];simpa using hp
   rw[hb.frozen (hlt _ hin)];exact hz b off hin
  ·intro ha
   have:=hn ha
   rw[hps]at this;simpa using this
  ·intro p hp _;rw[hps];simpa using hp
end
end Go.Av
namespace Go.Av
open Go.RowKit
section
variable {H:Type} {enc:TypeId×Value->H} {P:Program} {w w':World}
theorem mT{base:Nat}{spare:Nat->Bool}{held:Bool}:∀ {ts:List TypeId} {vs:List Value} {ds:List (DataW H)} {ps:List MemPlace},DataW.TrodAll enc P w base spare held ts vs ds ps->(∀p∈ps,w.sameAt w' p)->DataW.TrodAll enc P w' base spare held ts vs ds ps
 |[],[],[],_,h,_=>h
 |_:: _,_:: _,_:: _,_,⟨p,q,⟨n,h1⟩,h2,e⟩,hs=>⟨p,q,⟨n,DataW.trod_carry n _ _ _ h1 (fun x hx=>hs x (by rw[e];exact List.mem_append_left _ hx))⟩,mT h2 (fun x hx=>hs x (by rw[e];exact List.mem_append_right _ hx)),e⟩
theorem vG(hb:Below w.heap.size w w'){p:MemPlace}(hp:p.block<w.heap.size):w.sameAt w' p:=by
 cases p with
 |cell b off=>
  have:=hb.block b hp
  show w'.cell? ⟨b,off,none⟩=w.cell? ⟨b,off,none⟩;simp only[World.cell?,this]
 |map b=>exact hb.block b hp
theorem yK{T:TypeId->Prop}(K:Kids P T)(hz:∀t e,T t->P.underlying t=some (.slice e)->0<P.cellsOf e){ts:List TypeId}{vs:List Value}{ds:List (DataW H)}{ps:List MemPlace}(hT:∀t∈ts,T t)(h:DataW.TrodAll enc P w 0 (fun _=>true) true ts vs ds ps)(hlt:∀p∈ps,p.block<w.heap.size)(hb:Below w.heap.size w w')(sp:Nat->Bool)(hsp:∀p∈ps,sp p.block=true):DataW.TrodAll enc P w' 0 sp true ts vs ds ps:=
 (mT h fun p hp=>vG hb (hlt p hp)).respare K hz hT hsp
end
theorem A8{α:Type}(Q:Nat->α->Prop):∀n,(∀i,i<n->∃x,Q i x)->∃l:List α,l.length=n/\∀i x,l[i]? = some x->Q i x
 |0,_=>⟨[],rfl,fun i x h=>by simp at h⟩
 | n+1,h=>by
  obtain⟨l,h1,h2⟩:=A8 Q n fun i hi=>h i (by omega);obtain⟨y,hy⟩:=h n (by omega);refine⟨l++[y],by simp[h1],fun i x hx=>?_⟩;by_cases hi:i<n
  ·rw[Ql (by omega)]at hx;exact h2 i x hx
  ·rw[Qx (by omega)]at hx;have hin:i-l.length=0:=by
    rcases QK (i-l.length)with h|h
    ·exact h
    ·rw[Qh (by simp;omega)]at hx;cases hx
   rw[hin]at hx;simp only[PU,PN]at hx;subst hx;obtain rfl:i=n:=by omega
   exact hy
end Go.Av
namespace Go.Av
open Go.RowKit Go.WideShapes Go.ChangeShapes
section
variable {H:Type} (enc:TypeId×Value->H) (P:Program) (W:World)
def Rd{α:Type}(N:Nat)(t:TypeId)(cells:α->List AV)(Ok:α->Prop):Prop:=∀(base:Nat)(held:Bool)(n:Nat),n<N->∀(cs:List Value)(x:DataW H×List MemPlace),DataW.trod enc P W base (fun _=>true) held n t cs=some x->(∀k∈x.1.weights P t,k<=reachBytes)->∃a:α,bQ (lG W) [] (cells a) cs/\Ok a
def Hi{α:Type}(N:Nat)(tot:Nat)(o:Nat)(fs:List Field)(cells:α->List AV)(Ok:α->Prop):Prop:=∀(base:Nat)(held:Bool)(n:Nat),n<N->∀(cs:List Value)(xs:List (DataW H×List MemPlace)),cs.length=tot->
 xs.length=fs.length->(∀(i:Nat)(f:Field),fs[i]? = some f->DataW.trod enc P W base (fun _=>true) held n f.type ((cs.drop f.offset).take (P.cellsOf f.type))=xs[i]?)->(∀k∈DataW.weightsEach P (fs.map (·.type)) (xs.map (·.1)),k<=reachBytes)->∃a:α,bQ (lG W) [] (cells a) (cs.drop o)/\Ok a
variable {enc P W} {α β:Type} {N:Nat} {t:TypeId}
theorem Rd.zero{cells:α->List AV}{Ok:α->Prop}:Rd enc P W 0 t cells Ok:=fun _ _ n hn=>absurd hn (by omega)
theorem Rd.le{cells:α->List AV}{Ok:α->Prop}(h:Rd enc P W N t cells Ok){M:Nat}(hm:M<=N):Rd enc P W M t cells Ok:=fun b hd n hn=>h b hd n (by omega)
theorem Rd.map{cells:α->List AV}{Ok:α->Prop}(h:Rd enc P W N t cells Ok)(g:α->β){cells':β->List AV}{Ok':β->Prop}(hc:∀a,cells' (g a)=cells a)(ho:∀a,Ok a->Ok' (g a)):Rd enc P W N t cells' Ok':=by
 intro b hd n hn cs x hx hw;obtain⟨a,h1,h2⟩:=h b hd n hn cs x hx hw;exact⟨g a,by rw[hc];exact h1,ho a h2⟩
theorem Bu(ht:P.underlying t=some .bool):Rd enc P W N t (fun b:Bool=>[.bool b]) (fun _=>True):=by
 intro b hd n hn cs x hx hw;obtain⟨b,rfl,_⟩:=DataW.trod_bool ht hx;exact⟨b,by simp[bQ,VR],trivial⟩
theorem o8{k:IntKind}(ht:P.underlying t=some (.int k)):Rd enc P W N t (fun n:Int=>[.int k n]) (fun n=>(Lit.int k n).wf=true):=by
 intro b hd n hn cs x hx hw;obtain⟨b,rfl,_,hwf⟩:=DataW.trod_int ht hx;exact⟨b,by simp[bQ,VR],hwf⟩
theorem np(ht:P.underlying t=some .string):Rd enc P W N t (fun s:List UInt8=>[.str s]) (fun s=>s.length<=reachBytes):=by
 intro b hd n hn cs x hx hw;obtain⟨s,rfl,rfl,_⟩:=DataW.trod_string ht hx;exact⟨s.data.toList,by simp[bQ,VR],hw _ (by simp[DataW.weights])⟩
def Kq(cells:α->List AV)(ev:α->AV)(sz:Nat):Prop:=∀(a:α)(S:aP)(β:List cu)(vs:List Value),bQ S β (cells a) vs->vs.length=sz->∃v,VR S β (ev a) v/\v.cells.toList=vs
theorem mq{cells:α->List AV}{ev:α->AV}{sz:Nat}(he:∀a,ev a= .agg (cells a)):Kq cells ev sz:=fun a S β vs h hl=>⟨.agg vs.toArray,by rw[he];simp only[VR];exact⟨vs,rfl,h⟩,by simp[Value.cells]⟩
theorem Fv{ev:α->AV}(ho:∀a,bM (ev a)=true):Kq (fun a=>[ev a]) ev 1:=fun a S β vs h hl=>by
 simp only[bQ]at h;obtain⟨v,_,rfl,h,rfl⟩:=h;exact⟨v,h,by rw[(jp (ho a) h).1]⟩
theorem mg{e:TypeId}:∀ {l:List (DataW H)} {d:DataW H},d∈l->∀k∈d.weights P e,k∈DataW.weightsAll P e l
 |x:: l,d,hd,k,hk=>by
  simp only[DataW.weightsAll,Qp];rcases Qm.1 hd with rfl|hd
  ·exact .inl hk
  ·exact .inr (mg hd k hk)
theorem l9{e:TypeId}{cells:α->List AV}{Ok:α->Prop}(h:Rd enc P W N e cells Ok)(ht:P.underlying t=some (.slice e)){sz by_:Nat}(hsz:P.cellsOf e=sz)(h0:0<sz)(hby:P.bytesOf e=by_){ev:α->AV}(hev:Kq cells ev sz):
  Rd enc P W N t (fun l:List α=>[.sl (l.map ev)]) (fun l=>l.length*by_<=reachBytes/\∀a∈l,Ok a):=by
 intro base hd n hn cs x hx hw;rcases DataW.trod_slice ht hx with⟨rfl,rfl⟩|⟨a,len,cap,elems,rest,m,rfl,rfl,rfl,hb,hle,hm,hlen,hel,hsp,_⟩
 ·exact⟨[],by simp only[bQ,SL,VR];exact⟨_,_,rfl,⟨none,0,rfl,P5 _,fun _=>rfl,fun q hq=>by cases hq⟩,rfl⟩,by simp,fun a ha=>by cases ha⟩
 obtain⟨hrl,hre⟩:=hsp rfl;rw[hsz]at hel hre;simp only[DataW.weights,ht,Qm,Qp,hby]at hw;have hspot:0<cap->a.spot=none:=by
  intro hc;have:∃y,(W.cells? base (a.add 0) sz).bind (DataW.trod enc P W base (fun _=>true) hd m e)=some y:=by
   by_cases h1:0<len
   ·have:=hel 0 h1
    rw[P1 (by omega)]at this;exact⟨_,by simpa using this⟩
   ·have:=hre 0 (by omega)
    rw[P1 (by omega)]at this;obtain rfl:len=0:=by omega
    exact⟨_,by simpa using this⟩
  obtain⟨y,hy⟩:=this;obtain⟨cs,hcs,_⟩:=SR.1 hy;obtain⟨_,hl,hc⟩:=World.cells?_some hcs;have h2:=hc 0 h0;rw[P1 (by omega)]at h2;have h3:=World.cell?_spot h2;have e:(a.add 0).add 0=a:=by unfold Addr.add;simp
  rwa [e]at h3
 have hx:∀i,i<len->∃y:α,(∃v,VR (lG W) [] (ev y) v/\v.cells.size=sz/\fM (lG W) a.block (a.off+i*sz) v.cells.toList)/\Ok y:=by
  intro i hi;have h1:=hel i hi;rw[P1 (by omega)]at h1;obtain⟨cs,hcs,htr⟩:=SR.1 h1;obtain⟨y,hy,hok⟩:=h base hd m (by omega) cs _ htr (fun k hk=>hw k (.inr (.inl (mg (List.mem_map.2 ⟨_,P2 _,rfl⟩) k hk))));obtain⟨_,hl,hc⟩:=World.cells?_some hcs;obtain⟨v,hv,hvc⟩:=hev y _ _ cs hy hl;refine⟨y,⟨v,hv,by rw[<- QE,hvc,hl],fun j u hj=>?_⟩,hok⟩;rw[hvc]at hj;have hjl:j<sz:=by
   rcases Qn j cs.length with h|h
   ·omega
   ·rw[Qh h]at hj;cases hj
  have h2:=hc j hjl;rw[hj]at h2;unfold lG;have hs:=hspot (by omega);have e:(a.add (i*sz)).add j=⟨a.block,a.off+i*sz+j,none⟩:=by
   obtain⟨b,o,s⟩:=a;simp only at hs;subst hs;rw[add_plain,add_plain]
  rw[<- e];exact h2
 obtain⟨l,hl1,hl2⟩:=A8 (fun i y=>(∃v,VR (lG W) [] (ev y) v/\v.cells.size=sz/\fM (lG W) a.block (a.off+i*sz) v.cells.toList)/\Ok y) len hx;refine⟨l,?_,?_,fun y hy=>?_⟩
 ·simp only[bQ,VR,Rp];refine⟨_,_,rfl,⟨some a,cap,by rw[hl1],by omega,(fun e=>by cases e),fun q hq=>?_⟩,rfl⟩;cases hq;refine⟨hspot,sz,.of_get fun i e he=>?_⟩;rw[Q8,Q5]at he;obtain⟨y,hy,rfl⟩:=he;exact (hl2 i y hy).1
 ·have:=hw _ (.inl rfl)
  simp only[Rp]at this;have h3:=Qi by_ (show l.length<=elems.length+rest.length by omega);omega
 ·obtain⟨i,hi,e⟩:=List.getElem_of_mem hy;exact (hl2 i y (by rw[P1 hi,e])).2
theorem jP{tot:Nat}:Hi enc P W N tot tot [] (fun _:Unit=>[]) (fun _=>True):=fun base hd n hn cs xs hl _ _ _=>⟨(),by simp[bQ,<- hl],trivial⟩
theorem bN{tot o k:Nat}{f:Field}{fs:List Field}{c1:α->List AV}{Ok1:α->Prop}{c2:β->List AV}{Ok2:β->Prop}(h1:Rd enc P W N f.type c1 Ok1)(ho:f.offset=o)(hk:P.cellsOf f.type=k)(h2:Hi enc P W N tot (o+k) fs c2 Ok2):
  Hi enc P W N tot o (f:: fs) (fun x:α×β=>c1 x.1++c2 x.2) (fun x=>Ok1 x.1/\Ok2 x.2):=by
 intro base hd n hn cs xs hl hx hf hw
 match xs,hx with
 |x:: xs,hx=>
  have hf0:=hf 0 f rfl;rw[ho,hk]at hf0;simp only[QO,DataW.weightsEach,Qp]at hw;obtain⟨a,ha,oa⟩:=h1 base hd n hn _ x hf0 fun k hk=>hw k (.inl hk);obtain⟨b,hb,ob⟩:=h2 base hd n hn cs xs hl (by simpa using hx) (fun i g hg=>by simpa using hf (i+1) g (by simpa using hg)) fun k hk=>hw k (.inr hk);refine⟨(a,b),?_,oa,ob⟩
  have:=ha.append hb
  rwa [<- S4,List.take_append_drop]at this
theorem il{fs:Array Field}{tot:Nat}{cells:α->List AV}{Ok:α->Prop}(ht:P.underlying t=some (.struct fs))(hc:P.cellsOf t=tot)(h:Hi enc P W N tot 0 fs.toList cells Ok):Rd enc P W (N+1) t cells Ok:=by
 intro base hd n hn cs x hx hw;obtain⟨xs,m,rfl,rfl,hl,hxs,hf⟩:=DataW.trod_struct ht hx;simp only[DataW.weights,ht]at hw;obtain⟨a,h1,h2⟩:=h base hd m (by omega) cs xs (by rw[hl,hc]) (by simpa using hxs) (fun i f hi=>hf i f (by simpa using hi)) hw;exact⟨a,by simpa using h1,h2⟩
theorem Gy{cells:α->List AV}{Ok:α->Prop}(h:∀N,Rd enc P W N t cells Ok){base:Nat}{held:Bool}{v:Value}{d:DataW H}{p:List MemPlace}(hd:DataW.Trod enc P W base (fun _=>true) held t v d p)(hw:∀k∈d.weights P t,k<=reachBytes):
  ∃a:α,bQ (lG W) [] (cells a) v.cells.toList/\Ok a:=by
 obtain⟨n,hn⟩:=hd;exact h (n+1) base held n (by omega) _ _ hn hw
theorem Bt{f:α->AV}{Ok:α->Prop}(h:∀N,Rd enc P W N t (fun a=>[f a]) Ok){base:Nat}{held:Bool}{v:Value}{d:DataW H}{p:List MemPlace}(hv:v.cells.toList=[v])(hd:DataW.Trod enc P W base (fun _=>true) held t v d p)(hw:∀k∈d.weights P t,k<=reachBytes):
  ∃a:α,VR (lG W) [] (f a) v/\Ok a:=by
 obtain⟨a,h1,h2⟩:=Gy h hd hw;rw[hv]at h1;simp only[bQ]at h1;obtain⟨y,ys,e,h1,rfl⟩:=h1;cases e;exact⟨a,h1,h2⟩
theorem BS{e:TypeId}{r:Reach}{b0:Nat}{f:α->AV}{Ok:α->Prop}(h:∀N,Rd enc P W N t (fun a=>[f a]) Ok)(ht:P.underlying t=some (.slice e)){base:Nat}{held:Bool}{v:Value}{d:DataW H}{p:List MemPlace}(hok:Value.okWide P W r b0 t v)(hd:DataW.Trod enc P W base (fun _=>true) held t v d p)(hw:∀k∈d.weights P t,k<=reachBytes):∃a:α,VR (lG W) [] (f a) v/\Ok a:=by
 obtain⟨a,len,cap,rfl⟩:=okWide_slice ht hok;exact Bt h rfl hd hw
theorem Hr{r:Reach}{b0:Nat}{f:α->AV}{Ok:α->Prop}(h:∀N,Rd enc P W N t (fun a=>[f a]) Ok)(ht:P.underlying t=some .string){base:Nat}{held:Bool}{v:Value}{d:DataW H}{p:List MemPlace}(hok:Value.okWide P W r b0 t v)(hd:DataW.Trod enc P W base (fun _=>true) held t v d p)(hw:∀k∈d.weights P t,k<=reachBytes):∃a:α,VR (lG W) [] (f a) v/\Ok a:=by
 obtain⟨a,rfl⟩:=okWide_string ht hok;exact Bt h rfl hd hw
theorem jx{fs:Array Field}{r:Reach}{b0:Nat}{f:α->AV}{Ok:α->Prop}{cells:α->List AV}(h:∀N,Rd enc P W N t cells Ok)(hf:∀a,f a= .agg (cells a))(ht:P.underlying t=some (.struct fs)){base:Nat}{held:Bool}{v:Value}{d:DataW H}{p:List MemPlace}(hok:Value.okWide P W r b0 t v)(hd:DataW.Trod enc P W base (fun _=>true) held t v d p)(hw:∀k∈d.weights P t,k<=reachBytes):∃a:α,VR (lG W) [] (f a) v/\Ok a:=by
 obtain⟨cs,rfl,_⟩:=okWide_struct ht hok;obtain⟨a,h1,h2⟩:=Gy h hd hw;refine⟨a,?_,h2⟩;rw[hf];simp only[VR];exact⟨cs.toList,by simp,h1⟩
theorem gy{ts:List TypeId}{ds:List (DataW H)}(h:(DataW.weightsEach P ts ds).all (· <=reachBytes)=true){j:Nat}{u:TypeId}{d:DataW H}(ht:ts[j]? = some u)(hd:ds[j]? = some d):∀k∈d.weights P u,k<=reachBytes:=fun k hk=>by
 have:=P7.1 h _ (DataW.weights_mem_each ht hd k hk)
 simpa using this
end
end Go.Av
namespace Go.Av.Ap
open Go Go.Av
def Val.limN:Nat->Val->Prop
 |0,_=>True
 |n+1,v=>v.names.length<=140737488355328/\v.values.length<=140737488355328/\∀x∈v.values,x.limN n
def Val.Lim(v:Val):Prop:=∀n,v.limN n
def Exp.limN:Nat->Exp->Prop
 |0,_=>True
 |n+1,v=>v.names.length<=8796093022208/\v.args.length<=140737488355328/\∀x∈v.args,x.limN n
def Exp.Lim(v:Exp):Prop:=∀n,v.limN n
def Ty.limN:Nat->Ty->Prop
 |0,_=>True
 |n+1,v=>v.fields.length<=140737488355328/\∀x∈v.fields,x.2.limN n
def Ty.Lim(v:Ty):Prop:=∀n,v.limN n
def Val.Lim.names{v:Val}(h:v.Lim):v.names.length<=140737488355328:=(h 1).1
def Val.Lim.len{v:Val}(h:v.Lim):v.values.length<=140737488355328:=(h 1).2.1
def Val.Lim.kid{v:Val}(h:v.Lim){x:Val}(hx:x∈v.values):x.Lim:=fun n=>(h (n+1)).2.2 x hx
def Exp.Lim.names{v:Exp}(h:v.Lim):v.names.length<=8796093022208:=(h 1).1
def Exp.Lim.len{v:Exp}(h:v.Lim):v.args.length<=140737488355328:=(h 1).2.1
def Exp.Lim.kid{v:Exp}(h:v.Lim){x:Exp}(hx:x∈v.args):x.Lim:=fun n=>(h (n+1)).2.2 x hx
def Ty.Lim.len{v:Ty}(h:v.Lim):v.fields.length<=140737488355328:=(h 1).1
def Ty.Lim.kid{v:Ty}(h:v.Lim){x:cE}(hx:x∈v.fields):x.2.Lim:=fun n=>(h (n+1)).2 x hx
structure Fun.Lim (f:Fun):Prop where
 params:f.params.length<=140737488355328
 pty:∀x∈f.params,x.2.Lim
 result:f.result.Lim
 body:f.body.Lim
structure Mod.Lim (m:Mod):Prop where
 uses:m.uses.length<=140737488355328
 vars:m.vars.length<=140737488355328
 vty:∀x∈m.vars,x.2.Lim
 init:m.init.length<=140737488355328
 ies:∀e∈m.init,e.Lim
 funcs:m.funcs.length<=140737488355328
 fns:∀f∈m.funcs,f.Lim
 old:m.old.length<=140737488355328
 oty:∀x∈m.old,x.2.Lim
 forward:m.forward.length<=140737488355328
 fes:∀e∈m.forward,e.Lim
 back:m.back.length<=140737488355328
 bes:∀e∈m.back,e.Lim
def gm(b:UInt8):Bool:=decide (97<=b.toNat)&&decide (b.toNat<=122)
def lK(b:UInt8):Bool:=decide (48<=b.toNat)&&decide (b.toNat<=57)
def jw(b:UInt8):Bool:=gm b||lK b
def jd(s:aR):Bool:=!(s== [])&&gm (s.headD 0)&&decide (s.length<=20)&&((s.takeWhile jw).length== s.length)
def kH:aR:=[32,97,110,100,32,98,97,99,107,32,98,111,111,108,32,99,108,111,99,107,32,101,108,115,101,32,102,97,108,115,101,32,102,105,108,101,115,32,102,110,32,102,111,114,119,97,114,100,32,103,101,116,32,105,102,32,105,110,32,105,110,116,32,108,101,116,32,109,111,100,117,108,101,32,109,111,118,101,32,110,101,116,32,110,111,116,32,111,114,32,112,117,98,32,115,101,99,114,101,116,115,32,115,101,116,32,116,104,101,110,32,116,114,117,101,32,117,115,101,32,118,97,114,32]
def eR(s:aR):Bool:=jd s&&!(Lib.contains kH ([32]++s++[32]))
def Dd{s:aR}(h:jd s=true):s.length<=20:=by
 unfold jd at h;simp only[PO,PW]at h;exact h.1.2
def gK(p f:aR):Bool:=!(bP f p||f== p)
def kl{α:Type}(Q:α->α->Bool):List α->Bool
 |x:: y:: r=>Q x y&&kl Q (y:: r)
 |_=>true
theorem wq{α:Type}[Inhabited α](Q:α->α->Bool):(l:List α)->(kl Q l=true↔∀k,k+1<l.length->Q l[k]! l[k+1]! = true)
 |[]=>by simp[kl]
 |[x]=>by simp[kl]
 | x:: y:: r=>by
  simp only[kl,PO,wq Q (y:: r)];constructor
  ·rintro⟨h1,h2⟩ k hk;cases k with
   |zero=>simpa using h1
   |succ k=>simpa using h2 k (by simpa using hk)
  ·intro h;refine⟨by simpa using h 0 (by simp),fun k hk=>?_⟩;simpa using h (k+1) (by simpa using hk)
def AD{α:Type}[Inhabited α](P:α->Bool)(Q:α->α->Bool)(l:List α):(List.range' 0 l.length).all (fun k=>P l[k]! && (decide (k=0)||Q l[k-1]! l[k]!))=(l.all P&&kl Q l):=by
 rw[QG,PO,<- kP P l,wq];simp only[P7,SH,PO,QF,PW];constructor
 ·intro h;refine⟨fun k hk=>(h k hk).1,fun k hk=>?_⟩
  have:=(h (k+1) ⟨Qy _,by omega⟩).2
  rcases this with h0|h1
  ·omega
  ·simpa using h1
 ·rintro⟨h1,h2⟩ k hk;refine⟨h1 k hk,?_⟩;cases k with
  |zero=>exact .inl rfl
  |succ k=>exact .inr (by simpa using h2 k (by omega))
def cj:Nat->Ty->Bool
 |0,_=>false
 |d+1,t=>decide (0<=t.kind)&&decide (t.kind<3)&&decide (t.fields.length<=8)&&(t.kind== 2||t.fields.length== 0)&&(t.fields.all (fun f=>eR f.1&&cj d f.2)&&kl (fun a b=>gK a.1 b.1) t.fields)
theorem dQ(d:Nat)(t:Ty):cj (d+1) t=(decide (0<=t.kind)&&decide (t.kind<3)&&decide (t.fields.length<=8)&&(t.kind== 2||t.fields.length== 0)&&(t.fields.all (fun f=>eR f.1&&cj d f.2)&&kl (fun a b=>gK a.1 b.1) t.fields)):=rfl
abbrev dx(t:Ty):Bool:=cj 4 t
mutual
def KB:Ty->Ty->Bool
 |.mk k fs,a=>a.kind== k&&AG fs a.fields
def AG:List (aR×Ty)->List cE->Bool
 |[],_=>true
 |f:: fs,l=>KC f l&&AG fs l
def KC:aR×Ty->List cE->Bool
 |(n,t),l=>match F6 (fun z=>z.1== n) l with
  |some z=>KB t z.2
  |none=>false
end
def HR(a b:Int):Int:=IntKind.i64.wrap (BitVec.ofInt 64 a &&& ~~~ BitVec.ofInt 64 b).toNat
structure Sig.Lim (s:Sig):Prop where
 plen:s.params.length<=140737488355328
 ptys:∀t∈s.params,t.Lim
 result:s.result.Lim
structure Face.Lim (f:Face):Prop where
 len:f.funcs.length<=140737488355328
 sigs:∀s∈f.funcs,s.Lim
@[simp] theorem KL(x:Sig):aW 5 x.av=ay x.av:=by rw[bu (r9 x),qM,xc]
@[simp] theorem Hz(x:Sig):az 5 [] x.av=ay x.av:=by rw[cT (r9 x),qM,xc]
end Go.Av.Ap
namespace Go.Av.Ap
def oH:List aR->Bool
 |[]=>true
 |[_]=>true
 |x:: y:: l=>bP x y&&oH (y:: l)
def bc:Nat->Val->Bool
 |0,_=>false
 |d+1,v=>if(v.kind== 0||v.kind== 1)=true then v.names.length== 0&&v.values.length== 0&&(v.kind== 0||v.n== 0||v.n== 1)
  else v.kind== 2&&v.n== 0&&v.names.length== v.values.length&&decide (v.names.length<=8)&&oH v.names&&v.values.all (bc d)
def cZ(b:Bool):Val:=.mk 1 (if b then 1 else 0) [] []
def kB(n:Int):Val:=.mk 0 n [] []
def jb(p:List Mod)(s:aR):Int:=bj (fun m=>m.name== s) p 0
def ge(l:List Fun)(s:aR):Int:=bj (fun f=>f.name== s) l 0
def dM(l:List cE)(s:aR):Int:=bj (fun f=>f.1== s) l 0
structure Ms where
 fuel:Int
 frames:Int
 world:List Int
 deeds:List Deed
 calls:List Call
 state:List (List Val)
inductive Rs (α:Type) where
 |ok (a:α) (m:Ms)
 |er (e:Int) (m:Ms)
def X(α:Type):=Ms->Rs α
def X.ok{α:Type}(a:α):X α:=fun m=>.ok a m
def X.er{α:Type}(e:Int):X α:=fun m=>.er e m
def X.bind{α β:Type}(x:X α)(f:α->X β):X β:=fun m=>match x m with
 |.ok a m'=>f a m'
 |.er e m'=>.er e m'
def X.upd{α:Type}(f:Ms->Ms)(x:X α):X α:=fun m=>x (f m)
def X.get{α:Type}(f:Ms->X α):X α:=fun m=>f m m
def bg(op:Int):Int:=
 if op=0\/op=1\/op=2\/op=17 then 0
 else if op=10\/op=14\/op=16\/op=18 then 1
 else if op=3\/op=4\/op=5\/op=6\/op=7\/op=8\/op=9\/op=12 then 2
 else if op=11 then 3
 else if op=13\/op=15 then -1
 else -2
def i7:List aR->List Val->aR->Option Val
 |n:: ns,v:: vs,s=>match i7 ns vs s with
  |some x=>some x
  |none=>if n=s then some v else none
 |_,_,_=>none
def dh:List aR->List Val->aR->Option Val
 |n:: ns,v:: vs,s=>if n=s then some v else dh ns vs s
 |_,_,_=>none
def wr(n:Int):Int:=IntKind.i64.wrap n
def km(op:Int)(a b:Val):X Val:=
 if op=7 then(if a.kind=b.kind/\a.kind≠2 then .ok (cZ (a.n== b.n))else .er 13)
 else if a.kind=0/\b.kind=0 then
  (if op=3 then .ok (kB (wr (a.n+b.n)))else if op=4 then .ok (kB (wr (a.n-b.n)))else if op=5 then .ok (kB (wr (a.n*b.n)))else .ok (cZ (decide (a.n<b.n))))
 else .er 13
mutual
def dj:Val->Nat
 |.mk _ _ _ vs=>dw vs+1
def dw:List Val->Nat
 |[]=>0
 |v:: vs=>max (dj v) (dw vs)
end
abbrev Ev:=Int->List aR->List Val->Exp->X Val
def boolX(r:X Val):X Bool:=r.bind fun v=>if v.kind=1 then .ok (v.n== 1)else .er 13
def listX(r:Exp->X Val):List Exp->X (List Val)
 |[]=>.ok []
 |e:: es=>(r e).bind fun v=>(listX r es).bind fun vs=>.ok (v:: vs)
def iC(r:Exp->X Val)(e:Exp):X Val:=
 if e.names.length=e.args.length/\oH e.names=true then
  (if e.names.length<=8 then(listX r e.args).bind fun vs=>if dj (.mk 2 0 e.names vs)<=4 then .ok (.mk 2 0 e.names vs)else .er 6 else .er 6)
 else .er 13
def ln(p:List Mod)(at_:Int)(s:aR):Option Fun:=
 if at_<0 then none else(let l:=(p[at_.toNat]?.getD default).funcs;let i:=ge l s;if i<0 then none else l[i.toNat]?)
def fX(p:List Mod)(r:Ev)(at_:Int)(f:Fun)(l:List Val):X Val:=
 .get fun m=>if m.frames<60 then
  .upd (fun m=>{ m with calls:=if f.pub=true then m.calls++[⟨(p[at_.toNat]?.getD default).name,f.name,l⟩]else m.calls,frames:=m.frames+1 })
   ((r at_ (f.params.map (·.1)) l f.body).bind fun v=>.upd (fun m=>{ m with frames:=m.frames-1 }) (.ok v))
 else .er 6
def mL(p:List Mod)(r:Ev)(own:Int)(ns:List aR)(vs:List Val)(e:Exp):X Val:=
 let at_:=if e.m=[]then own else jb p e.m
 match ln p at_ e.s with
 |none=>.er 12
 | some f=>if e.m=[]\/f.pub=true then
   (if e.args.length=f.params.length then(listX (r own ns vs) e.args).bind fun l=>fX p r at_ f l else .er 13)
  else .er 12
def sQ(r:X Val)(e:Exp):X Val:=
 r.bind fun v=>if v.kind=0 then
  (if e.n=1\/e.n=2\/e.n=4\/e.n=8 then
   .get fun m=>.upd (fun m=>{ m with world:=m.world.tail,deeds:=m.deeds++[⟨e.n,v.n,m.world.headD 0⟩] }) (.ok (kB (m.world.headD 0)))
  else .er 14)
 else .er 13
def setSt(st:List (List Val))(i k:Nat)(v:Val):List (List Val):=st.modify i fun l=>l.set k v
def mR(st:List (List Val))(i k:Nat):Val:=(st.getD i []).getD k default
def s7(p:List Mod)(r:Exp->X Val)(own:Int)(e:Exp):X Val:=
 if own<0 then .er 12 else
 let i:=dM (p[own.toNat]?.getD default).vars e.s
 if i<0 then .er 12 else
 if e.op=18 then(r e.args[0]!).bind fun v=>.upd (fun m=>{ m with state:=setSt m.state own.toNat i.toNat v }) (.ok v)
 else .get fun m=>.ok (mR m.state own.toNat i.toNat)
def kJ(p:List Mod)(r:Ev):Ev:=fun own ns vs e=>.get fun m=>
 if m.fuel<=0 then .er 16 else .upd (fun m=>{ m with fuel:=m.fuel-1 }) <|
 let n:=bg e.op
 if n= -2\/(n≠-1/\n≠e.args.length)then .er 13
 else if e.op=0 then .ok (kB e.n)
 else if e.op=1 then(if e.n=0\/e.n=1 then .ok (cZ (e.n== 1))else .er 13)
 else if e.op=2 then(match i7 ns vs e.s with|some v=>.ok v|none=>.er 12)
 else if e.op=3\/e.op=4\/e.op=5\/e.op=6\/e.op=7 then(r own ns vs e.args[0]!).bind fun a=>(r own ns vs e.args[1]!).bind fun b=>km e.op a b
 else if e.op=8\/e.op=9 then(boolX (r own ns vs e.args[0]!)).bind fun x=>if x=(e.op== 9)then .ok (cZ (e.op== 9))else(boolX (r own ns vs e.args[1]!)).bind fun y=>.ok (cZ y)
 else if e.op=10 then(boolX (r own ns vs e.args[0]!)).bind fun x=>.ok (cZ !x)
 else if e.op=11 then(boolX (r own ns vs e.args[0]!)).bind fun x=>if x=true then r own ns vs e.args[1]! else r own ns vs e.args[2]!
 else if e.op=12 then(r own ns vs e.args[0]!).bind fun v=>r own (ns++[e.s]) (vs++[v]) e.args[1]!
 else if e.op=13 then iC (r own ns vs) e
 else if e.op=14 then(r own ns vs e.args[0]!).bind fun v=>(match dh v.names v.values e.s with|some x=>if v.kind=2 then .ok x else .er 13|none=>.er 13)
 else if e.op=15 then mL p r own ns vs e
 else if e.op=16 then sQ (r own ns vs e.args[0]!) e
 else s7 p (r own ns vs) own e
def bo(p:List Mod):Nat->Ev
 |0=>fun _ _ _ _=>.er 16
 |n+1=>kJ p (bo p n)
end Go.Av.Ap
namespace Go.Av.Ap
def Rs.st{α:Type}:Rs α->Ms
 |.ok _ m=>m
 |.er _ m=>m
def Rs.on{α:Type}(f:Ms->Ms):Rs α->Rs α
 |.ok a m=>.ok a (f m)
 |.er e m=>.er e (f m)
def uv{α:Type}(y:X α):X α:=.get fun m=>if m.fuel<=0 then .er 16 else .upd (fun m=>{ m with fuel:=m.fuel-1 }) y
def N4(n a:Int):X Val:=.get fun m=>.upd (fun m=>{ m with world:=m.world.tail,deeds:=m.deeds++[⟨n,a,m.world.headD 0⟩] }) (.ok (kB (m.world.headD 0)))
structure Closed (p:List Mod) (Q:Int->(α:Type)->X α->Prop):Prop where
 ok:∀(o:Int)(α:Type)(a:α),Q o α (.ok a)
 er:∀(o:Int)(α:Type)(e:Int),e≠0->Q o α (.er e)
 bind:∀(o:Int)(α β:Type)(x:X α)(f:α->X β),Q o α x->(∀a,Q o β (f a))->Q o β (x.bind f)
 tick:∀(o:Int)(α:Type)(y:X α),Q o α y->Q o α (uv y)
 act:∀(o n a:Int),Q o Val (N4 n a)
 set:∀(o:Int)(k:Nat)(v:Val),¬o<0->Q o Val (.upd (fun m=>{ m with state:=setSt m.state o.toNat k v }) (.ok v))
 get:∀(o:Int)(k:Nat),Q o Val (.get fun m=>.ok (mR m.state o.toNat k))
 enter:∀(o a:Int)(r:Ev)(f:Fun)(l:List Val),¬a<0->a.toNat<p.length->f∈(p[a.toNat]?.getD default).funcs->(∀o ns vs e,Q o Val (r o ns vs e))->Q o Val (fX p r a f l)
def ry{p:List Mod}{a:Int}{s:aR}{f:Fun}(h:ln p a s=some f):¬a<0/\a.toNat<p.length/\f∈(p[a.toNat]?.getD default).funcs:=by
 unfold ln at h;by_cases h1:a<0
 ·simp[h1]at h
 ·rw[if_neg h1]at h;simp only at h;split at h
  ·cases h
  ·have hm:=QT h;refine⟨h1,?_,hm⟩;rcases Qn a.toNat p.length with k|k
   ·exact k
   ·rw[Qh k]at hm;cases hm
def MU{Q:Int->(α:Type)->X α->Prop}{o:Int}{α:Type}{c:Prop}[Decidable c](x y:X α)(h1:Q o α x)(h2:Q o α y):Q o α (if c then x else y):=by
 split
 ·exact h1
 ·exact h2
section
variable {p:List Mod} {Q:Int->(α:Type)->X α->Prop} (C:Closed p Q)
include C
theorem Closed.boolX{o:Int}{r:X Val}(h:Q o Val r):Q o Bool (boolX r):=by
 refine C.bind _ _ _ _ _ h fun v=>?_;split
 ·exact C.ok _ _ _
 ·exact C.er _ _ _ (by decide)
theorem Closed.listX{o:Int}{r:Exp->X Val}(h:∀e,Q o Val (r e)):∀l,Q o (List Val) (listX r l)
 |[]=>C.ok _ _ _
 |e:: l=>C.bind _ _ _ _ _ (h e) fun _=>C.bind _ _ _ _ _ (Closed.listX h l) fun _=>C.ok _ _ _
theorem Closed.step{r:Ev}(h:∀o ns vs e,Q o Val (r o ns vs e))(o:Int)(ns:List aR)(vs:List Val)(e:Exp):Q o Val (kJ p r o ns vs e):=by
 unfold kJ;refine C.tick _ _ _ ?_;have B:=fun{α β:Type} {x:X α} {f:α->X β}=>C.bind o α β x f;have I:=@MU Q o;have er:=fun(α:Type) n (h:n≠0)=>C.er o α n h;have ok:=fun(α:Type) (a:α)=>C.ok o α a;refine I _ _ (er _ _ (by decide)) (I _ _ (ok _ _) (I _ _ (I _ _ (ok _ _) (er _ _ (by decide))) (I _ _ ?_ (I _ _ ?_ (I _ _ ?_ (I _ _ ?_ (I _ _ ?_ (I _ _ ?_ (I _ _ ?_ (I _ _ ?_ (I _ _ ?_ (I _ _ ?_ ?_))))))))))))
 ·split
  ·exact ok _ _
  ·exact er _ _ (by decide)
 ·refine B (h _ _ _ _) fun a=>B (h _ _ _ _) fun b=>?_;unfold km;exact I _ _ (I _ _ (ok _ _) (er _ _ (by decide))) (I _ _ (I _ _ (ok _ _) (I _ _ (ok _ _) (I _ _ (ok _ _) (ok _ _)))) (er _ _ (by decide)))
 ·exact B (C.boolX (h _ _ _ _)) fun a=>I _ _ (ok _ _) (B (C.boolX (h _ _ _ _)) fun b=>ok _ _)
 ·exact B (C.boolX (h _ _ _ _)) fun a=>ok _ _
 ·exact B (C.boolX (h _ _ _ _)) fun a=>I _ _ (h _ _ _ _) (h _ _ _ _)
 ·exact B (h _ _ _ _) fun v=>h _ _ _ _
 ·unfold iC;exact I _ _ (I _ _ (B (C.listX (fun e=>h _ _ _ e) _) fun vs=>I _ _ (ok _ _) (er _ _ (by decide))) (er _ _ (by decide))) (er _ _ (by decide))
 ·refine B (h _ _ _ _) fun v=>?_;split
  ·exact I _ _ (ok _ _) (er _ _ (by decide))
  ·exact er _ _ (by decide)
 ·unfold mL;simp only;split
  ·exact er _ _ (by decide)
  ·rename_i f hf;obtain⟨h1,h2,h3⟩:=ry hf;exact I _ _ (I _ _ (B (C.listX (fun e=>h _ _ _ e) _) fun l=>C.enter _ _ _ _ _ h1 h2 h3 h) (er _ _ (by decide))) (er _ _ (by decide))
 ·unfold sQ;exact B (h _ _ _ _) fun v=>I _ _ (I _ _ (C.act _ _ _) (er _ _ (by decide))) (er _ _ (by decide))
 ·unfold s7;split
  ·exact er _ _ (by decide)
  ·rename_i ho;exact I _ _ (er _ _ (by decide)) (I _ _ (B (h _ _ _ _) fun v=>C.set _ _ _ ho) (C.get _ _))
theorem Closed.eval:∀(n:Nat)(o:Int)(ns:List aR)(vs:List Val)(e:Exp),Q o Val (bo p n o ns vs e)
 |0,_,_,_,_=>C.er _ _ _ (by decide)
 |n+1,o,ns,vs,e=>C.step (fun o ns vs e=>Closed.eval n o ns vs e) o ns vs e
end
def NL(α:Type)(x:X α):Prop:=∀m e s,x m= .er e s->e≠0
def jh(p:List Mod)(a:Int)(f:Fun)(l:List Val)(m:Ms):Ms:={ m with calls:=if f.pub=true then m.calls++[⟨(p[a.toNat]?.getD default).name,f.name,l⟩]else m.calls,frames:=m.frames+1 }
def zi(p:List Mod):Closed p fun _=>NL where
 ok:=fun _ _ a m e s h=>by cases h
 er:=fun _ _ a h m e s h2=>by cases h2;exact h
 bind:=fun _ _ _ x f hx hf m e s h=>by
  unfold X.bind at h;cases hr:x m with
  |er c t=>rw[hr]at h;cases h;exact hx m _ _ hr
  |ok a t=>rw[hr]at h;exact hf a t e s h
 tick:=fun _ _ y hy m e s h=>by
  unfold uv X.get at h;by_cases hf:m.fuel<=0
  ·simp only[hf,PQ]at h;cases h;decide
  ·simp only[hf,PP]at h;exact hy _ e s h
 act:=fun _ n a m e s h=>by cases h
 set:=fun _ k v _ m e s h=>by cases h
 get:=fun _ k m e s h=>by cases h
 enter:=fun _ a r f l _ _ _ hr m e s h=>by
  unfold fX X.get at h;by_cases hf:m.frames<60
  ·simp only[hf,PQ,X.upd,X.bind]at h;cases hq:r a (f.params.map (·.1)) l f.body { m with calls:=if f.pub=true then m.calls++[⟨(p[a.toNat]?.getD default).name,f.name,l⟩]else m.calls,frames:=m.frames+1 }with
   |ok b t=>rw[hq]at h;cases h
   |er c t=>rw[hq]at h;cases h;exact hr _ _ _ _ _ _ _ hq
  ·simp only[hf,PP]at h;cases h;decide
def nI{p:List Mod}{n:Nat}{o:Int}{ns:List aR}{vs:List Val}{e:Exp}{m s:Ms}{c:Int}(h:bo p n o ns vs e m= .er c s):c≠0:=(zi p).eval n o ns vs e m c s h
end Go.Av.Ap
namespace Go.Av.Ap
def uD(m:Ms):Prop:=(∀l∈m.state,∀v∈l,bc 4 v=true)/\(∀c∈m.calls,∀v∈c.args,bc 4 v=true)
def me(m:Ms):List Nat:=m.state.map List.length
def RQ{α:Type}(x:X α)(Q:α->Prop):Prop:=∀m,uD m->uD (x m).st/\me (x m).st=me m/\∀a s,x m= .ok a s->Q a
def jc{α:Type}{a:α}{Q:α->Prop}(h:Q a):RQ (.ok a) Q:=fun m hm=>⟨hm,rfl,fun b s e=>by cases e;exact h⟩
def gV{α:Type}{e:Int}{Q:α->Prop}:RQ (.er e) Q:=fun m hm=>⟨hm,rfl,fun b s e=>by cases e⟩
def eN{α β:Type}{x:X α}{f:α->X β}{Q:α->Prop}{R:β->Prop}(hx:RQ x Q)(hf:∀a,Q a->RQ (f a) R):RQ (x.bind f) R:=by
 intro m hm;obtain⟨h1,h2,h3⟩:=hx m hm;cases hr:x m with
 |er e s=>
  rw[hr]at h1 h2;simp only[X.bind,hr];exact⟨h1,h2,fun b s e=>by cases e⟩
 |ok a s=>
  rw[hr]at h1 h2;obtain⟨g1,g2,g3⟩:=hf a (h3 a s hr) s h1;simp only[X.bind,hr];exact⟨g1,g2.trans h2,g3⟩
def cQ{α:Type}{c:Prop}[Decidable c]{x y:X α}{Q:α->Prop}(h1:c->RQ x Q)(h2:¬c->RQ y Q):RQ (if c then x else y) Q:=by
 split
 ·exact h1 ‹_›
 ·exact h2 ‹_›
abbrev Rv(v:Val):Prop:=bc 4 v=true
def jr(n:Int):Rv (kB n):=by simp[Rv,kB,bc,Val.names,Val.values,Val.kind]
def gI(b:Bool):Rv (cZ b):=by cases b<;>rfl
theorem jM:(l:List Val)->(d:Nat)->(dw l<=d↔∀v∈l,dj v<=d)
 |[],d=>by simp[dw]
 |v:: l,d=>by
  simp only[dw,Qm,forall_eq_or_imp];rw[<- jM l d];omega
def gH(v:Val):dj v=dw v.values+1:=by cases v;rfl
theorem tG:∀(d:Nat)(v:Val),bc (d+1) v=true->dj v<=d->bc d v=true
 |0,v,_,hl=>by rw[gH]at hl;omega
 | d+1,v,h,hl=>by
  rw[gH]at hl;unfold bc at h|-;split at h
  ·rename_i hk;rw[PS hk];exact h
  ·rename_i hk;rw[if_neg hk];simp only[PO,P7]at h|-;exact⟨h.1,fun x hx=>tG d x (h.2 x hx) ((jM v.values d).1 (by omega) x hx)⟩
theorem CW{ns:List aR}{vs:List Val}(hl:ns.length=vs.length)(ha:oH ns=true)(h8:ns.length<=8)(hv:∀v∈vs,Rv v)(h4:dj (.mk 2 0 ns vs)<=4):Rv (.mk 2 0 ns vs):=by
 have h3:dw vs<=3:=by
  rw[gH]at h4;have:(Val.mk 2 0 ns vs).values=vs:=rfl;rw[this]at h4;omega
 have h5:=(jM vs 3).1 h3;unfold Rv bc;rw[if_neg (show ¬(((Val.mk 2 0 ns vs).kind== 0||(Val.mk 2 0 ns vs).kind== 1)=true) by simp[Val.kind])];simp only[Pq,Pu,Pp,Po,PO,P7,Qk];exact⟨⟨⟨⟨⟨trivial,trivial⟩,hl⟩,PT h8⟩,ha⟩,fun x hx=>tG 3 x (hv x hx) (h5 x hx)⟩
theorem AZ:∀(d:Nat)(v:Val),bc d v=true->bc (d+1) v=true
 |0,v,h=>by simp[bc]at h
 | d+1,v,h=>by
  unfold bc at h|-;split at h
  ·rename_i hk;rw[PS hk];exact h
  ·rename_i hk;rw[if_neg hk];simp only[PO,P7]at h|-;exact⟨h.1,fun x hx=>AZ d x (h.2 x hx)⟩
def ya{v x:Val}(h:Rv v)(hx:x∈v.values):Rv x:=by
 unfold Rv bc at h;split at h
 ·simp only[PO,Qk]at h;have:v.values=[]:=P6 h.1.2;rw[this]at hx;cases hx
 ·simp only[PO,P7]at h;exact AZ 3 x (h.2 x hx)
def su{v:Val}(h:Rv v):v.names.length=v.values.length:=by
 unfold Rv bc at h;split at h
 ·simp only[PO,Qk]at h;rw[h.1.1,h.1.2]
 ·simp only[PO,Qk]at h;exact h.1.1.1.2
theorem xF:∀(ns:List aR)(vs:List Val)(s:aR)(v:Val),i7 ns vs s=some v->v∈vs
 | n:: ns,w:: vs,s,v,h=>by
  unfold i7 at h;split at h
  ·rename_i x hx;cases h;exact QN _ (xF ns vs s v hx)
  ·split at h
   ·cases h;exact QS
   ·cases h
 |[],_,_,_,h=>by simp[i7]at h
 |_:: _,[],_,_,h=>by simp[i7]at h
theorem rj:∀(ns:List aR)(vs:List Val)(s:aR)(v:Val),dh ns vs s=some v->v∈vs
 |n:: ns,w:: vs,s,v,h=>by
  unfold dh at h;split at h
  ·cases h;exact QS
  ·exact QN _ (rj ns vs s v h)
 |[],_,_,_,h=>by simp[dh]at h
 |_:: _,[],_,_,h=>by simp[dh]at h
def kN(ns:List aR)(vs:List Val):Prop:=ns.length=vs.length/\∀v∈vs,Rv v
def qC{r:X Val}(h:RQ r Rv):RQ (boolX r) fun _=>True:=eN h fun _ _=>cQ (fun _=>jc trivial) (fun _=>gV)
theorem vF{r:Exp->X Val}(h:∀e,RQ (r e) Rv):∀l,RQ (listX r l) fun vs=>vs.length=l.length/\∀v∈vs,Rv v
 |[]=>jc ⟨rfl,fun v hv=>by cases hv⟩
 |e:: l=>eN (h e) fun v hv=>eN (vF h l) fun vs hvs=>jc ⟨by simp[hvs.1],fun w hw=>by
  rcases Qm.1 hw with rfl|hw
  ·exact hv
  ·exact hvs.2 w hw⟩
def xg{st:List (List Val)}(h:∀l∈st,∀v∈l,Rv v)(i k:Nat)(hd:Rv default):Rv (mR st i k):=by
 unfold mR;rw[Qw,Qw];cases h1:st[i]? with
 |none=>simpa using hd
 |some l=>
  simp only[Option.getD_some];cases h2:l[k]? with
  |none=>simpa using hd
  |some v=>exact h l (QT h1) v (QT h2)
def GI{p:List Mod}{r:Ev}{a:Int}{f:Fun}{l:List Val}(hr:∀o ns vs e,kN ns vs->RQ (r o ns vs e) Rv)(hl:l.length=f.params.length)(hv:∀v∈l,Rv v):RQ (fX p r a f l) Rv:=by
 have e0:∀m,fX p r a f l m=if m.frames<60 then((r a (f.params.map (·.1)) l f.body).bind fun v=>.upd (fun m=>{ m with frames:=m.frames-1 }) (.ok v)) (jh p a f l m)else .er 6 m:=fun m=>by
  unfold fX X.get;by_cases h:m.frames<60
  ·simp only[h,PQ];rfl
  ·simp only[h,PP];rfl
 intro m hm;rw[e0];split
 ·have hb:RQ ((r a (f.params.map (·.1)) l f.body).bind fun v=>.upd (fun m=>{ m with frames:=m.frames-1 }) (.ok v)) Rv:=
   eN (hr _ _ _ _ ⟨by simp[hl],hv⟩) fun _ hv m hm=>⟨hm,rfl,fun a s e=>by cases e;exact hv⟩
  have hm':uD (jh p a f l m):=by
   refine⟨hm.1,fun c hc=>?_⟩;simp only[jh]at hc;split at hc
   ·rcases Qp.1 hc with h|h
    ·exact hm.2 c h
    ·simp only[Qt]at h;subst h;exact hv
   ·exact hm.2 c hc
  exact hb _ hm'
 ·exact⟨hm,rfl,fun _ _ e=>by cases e⟩
def right_step{p:List Mod}{r:Ev}(hr:∀o ns vs e,kN ns vs->RQ (r o ns vs e) Rv)(o:Int)(ns:List aR)(vs:List Val)(e:Exp)(hs:kN ns vs):RQ (kJ p r o ns vs e) Rv:=by
 have tick:∀y:X Val,RQ y Rv->RQ (uv y) Rv:=fun y hy m hm=>by
  unfold uv X.get;by_cases h:m.fuel<=0
  ·simp only[h,PQ];exact⟨hm,rfl,fun _ _ e=>by cases e⟩
  ·simp only[h,PP];exact hy { m with fuel:=m.fuel-1 } hm
 have H:=fun e=>hr o ns vs e hs;refine tick _ ?_;refine cQ (fun _=>gV) fun _=>cQ (fun _=>jc (jr _)) fun _=>cQ (fun _=>cQ (fun _=>jc (gI _)) fun _=>gV) fun _=>cQ (fun _=>?_) fun _=>
  cQ (fun _=>?_) fun _=>cQ (fun _=>?_) fun _=>cQ (fun _=>?_) fun _=>cQ (fun _=>?_) fun _=>cQ (fun _=>?_) fun _=>cQ (fun _=>?_) fun _=>cQ (fun _=>?_) fun _=>
  cQ (fun _=>?_) fun _=>cQ (fun _=>?_) fun _=>?_
 ·split
  ·rename_i v hv;exact jc (hs.2 v (xF _ _ _ _ hv))
  ·exact gV
 ·refine eN (H _) fun a ha=>eN (H _) fun b hb=>?_;unfold km;exact cQ (fun _=>cQ (fun _=>jc (gI _)) fun _=>gV) fun _=>cQ (fun _=>cQ (fun _=>jc (jr _)) fun _=>cQ (fun _=>jc (jr _)) fun _=>cQ (fun _=>jc (jr _)) fun _=>jc (gI _)) fun _=>gV
 ·exact eN (qC (H _)) fun a _=>cQ (fun _=>jc (gI _)) fun _=>eN (qC (H _)) fun b _=>jc (gI _)
 ·exact eN (qC (H _)) fun a _=>jc (gI _)
 ·exact eN (qC (H _)) fun a _=>cQ (fun _=>H _) fun _=>H _
 ·exact eN (H _) fun v hv=>hr _ _ _ _ ⟨by simp[hs.1],fun w hw=>by
   rcases Qp.1 hw with h|h
   ·exact hs.2 w h
   ·simp only[Qt]at h;subst h;exact hv⟩
 ·unfold iC;exact cQ (fun h1=>cQ (fun h2=>eN (vF H _) fun vs hvs=>cQ (fun h3=>jc (CW (by rw[hvs.1];exact h1.1) h1.2 h2 hvs.2 h3)) fun _=>gV) fun _=>gV) fun _=>gV
 ·refine eN (H _) fun v hv=>?_;split
  ·rename_i x hx;exact cQ (fun _=>jc (ya hv (rj _ _ _ _ hx))) fun _=>gV
  ·exact gV
 ·unfold mL;simp only;split
  ·exact gV
  ·rename_i f hf;exact cQ (fun _=>cQ (fun h2=>eN (vF H _) fun l hl=>GI hr (by rw[hl.1,h2]) hl.2) fun _=>gV) fun _=>gV
 ·unfold sQ;exact eN (H _) fun v hv=>cQ (fun _=>cQ (fun _ m hm=>⟨hm,rfl,fun a s e=>by cases e;exact jr _⟩) fun _=>gV) fun _=>gV
 ·unfold s7;refine cQ (fun _=>gV) fun ho=>?_;simp only;refine cQ (fun _=>gV) fun hi=>cQ (fun _=>eN (H _) fun v hv m hm=>⟨⟨?_,hm.2⟩,?_,fun a s e=>by cases e;exact hv⟩) fun _ m hm=>⟨hm,rfl,fun a s e=>by cases e;exact xg hm.1 _ _ (jr 0)⟩
  ·intro l hl w hw;simp only[X.upd,X.ok,Rs.st,setSt]at hl;obtain⟨j,hj⟩:=Ss.1 hl;rw[List.getElem?_modify]at hj;cases h1:m.state[j]? with
   |none=>simp[h1]at hj
   | some l0=>
    rw[h1]at hj;simp only[Option.map_eq_map,Q3,PN]at hj;have hold:=hm.1 l0 (QT h1);split at hj
    ·subst hj;rcases List.mem_or_eq_of_mem_set hw with h|h
     ·exact hold w h
     ·subst h;exact hv
    ·subst hj;exact hold w hw
  ·simp only[X.upd,X.ok,Rs.st,me,setSt];apply List.ext_getElem?;intro j;rw[Q8,Q8,List.getElem?_modify];cases m.state[j]? with
   |none=>rfl
   |some l0=>
    simp only[Q3];split<;>simp
theorem li{p:List Mod}:∀(n:Nat)(o:Int)(ns:List aR)(vs:List Val)(e:Exp),kN ns vs->RQ (bo p n o ns vs e) Rv
 |0,_,_,_,_,_=>gV
 |n+1,o,ns,vs,e,hs=>right_step (fun o ns vs e h=>li n o ns vs e h) o ns vs e hs
def BG(p:List Mod):Bool:=(List.range p.length).any fun i=>(p.take i).any fun m=>m.name== (p[i]?.getD default).name
def gR(p:List Mod):Int:=if 20<p.length then 6 else if BG p=true then 5 else 0
def dO(world:List Int)(fuel:Int)(st:List (List Val)):Ms:=⟨fuel,0,world,[],[],st⟩
def lz(e:Exp)(ns:List aR)(vs:List Val):Rs Val:=
 if ns.length=vs.length/\vs.all (bc 4)=true then bo [] 100000 (-1) ns vs e (dO [] 100000 [])else .er 1 (dO [] 100000 [])
def i6:List Exp->Except Int (List Val)
 |[]=>.ok []
 | e:: es=>match lz e [] []with
  |.er c _=>.error c
  |.ok v _=>match i6 es with
   |.error c=>.error c
   |.ok vs=>.ok (v:: vs)
def fY:List Mod->Except Int (List Vars)
 |[]=>.ok []
 | m:: ms=>if m.init.length=m.vars.length then(match i6 m.init with
   |.error c=>.error c
   |.ok vs=>match fY ms with
    |.error c=>.error c
    |.ok r=>.ok (⟨m.name,vs⟩:: r))
  else .error 13
def fb(p:List Mod):Except Int (List Vars):=if gR p=0 then fY p else .error (gR p)
def qq(p:List Mod)(st:List Vars):Bool:=cS (fun(m:Mod) (v:Vars)=>v.module== m.name&&(v.values.length== m.vars.length&&v.values.all (bc 4))) p st
theorem pK:(l:List Exp)->(vs:List Val)->i6 l= .ok vs->vs.length=l.length/\∀v∈vs,Rv v
 |[],vs,h=>by cases h;exact⟨rfl,fun v hv=>by cases hv⟩
 | e :: es,vs,h=>by
  unfold i6 at h;split at h
  ·cases h
  ·rename_i v s hv;split at h
   ·cases h
   ·rename_i ws hws;cases h;obtain⟨h1,h2⟩:=pK es ws hws;refine⟨by simp[h1],fun w hw=>?_⟩;rcases Qm.1 hw with rfl|hw
    ·unfold lz at hv;rw[PS (by simp)]at hv;exact (li 100000 (-1) [] [] e ⟨rfl,fun v hv=>by cases hv⟩ (dO [] 100000 []) ⟨fun l hl=>by simp[dO]at hl,fun l hl=>by simp[dO]at hl⟩).2.2 _ _ hv
    ·exact h2 w hw
theorem lS:(p:List Mod)->(st:List Vars)->fY p= .ok st->qq p st=true
 |[],st,h=>by cases h;rfl
 | m :: ms,st,h=>by
  unfold fY at h;split at h
  ·rename_i hl;split at h
   ·cases h
   ·rename_i vs hvs;split at h
    ·cases h
    ·rename_i r hr;cases h;obtain⟨h1,h2⟩:=pK _ _ hvs
     have:=lS ms r hr
     unfold qq at this |-;simp only[cS,this,Rx,PO,Qk,P7];exact⟨trivial,by omega,h2⟩
  ·cases h
def rt{p:List Mod}{st:List Vars}(h:fb p= .ok st):qq p st=true:=by
 unfold fb at h;split at h
 ·exact lS p st h
 ·cases h
theorem tR:(l:List Exp)->(c:Int)->i6 l= .error c->c≠0
 |[],c,h=>by cases h
 | e:: es,c,h=>by
  unfold i6 at h;split at h
  ·rename_i c' s hc;cases h;unfold lz at hc;split at hc
   ·exact nI hc
   ·cases hc;decide
  ·split at h
   ·rename_i c' hc;cases h;exact tR es _ hc
   ·cases h
theorem rr:(p:List Mod)->(c:Int)->fY p= .error c->c≠0
 |[],c,h=>by cases h
 | m :: ms,c,h=>by
  unfold fY at h;split at h
  ·split at h
   ·rename_i c' hc;cases h;exact tR _ _ hc
   ·split at h
    ·rename_i c' hc;cases h;exact rr ms _ hc
    ·cases h
  ·cases h;decide
def ru{p:List Mod}{c:Int}(h:fb p= .error c):c≠0:=by
 unfold fb at h;split at h
 ·exact rr p c h
 ·cases h;assumption
end Go.Av.Ap
namespace Go.Av.Ap
open Go Go.Av
mutual
def O6:Ty->Ty->Option Ty
 |.mk k fs,b=>if k=b.kind then some (.mk k (Ns fs b.fields))else none
def Ns:List (aR×Ty)->List cE->List cE
 |[],_=>[]
 |f:: fs,l=>(match O5 f l with|some x=>[x]|none=>[])++Ns fs l
def O5:aR×Ty->List cE->Option cE
 |(n,t),l=>match F6 (fun z=>z.1== n) l with
  |some z=>(match O6 t z.2 with|some u=>some (n,u)|none=>none)
  |none=>none
end
def jJ(l:List aR)(s:aR):Int:=bj (fun x=>s== x) l 0
def iI:Nat->Ty->Val->Bool
 |0,_,_=>false
 |d+1,t,v=>t.kind== v.kind&&t.fields.all fun f=>decide (0<=jJ v.names f.1)&&iI d f.2 v.values[(jJ v.names f.1).toNat]!
def fc(t:Ty)(v:Val):Bool:=dx t&&(bc 4 v&&iI 4 t v)
def dX(l:List cE)(vars:List Val):Bool:=decide (l.length=vars.length)&&cS (fun f v=>fc f.2 v) l vars
def dG(fr:List cE)(vars:List Val):List cE->List Val->Option (List Val)
 |[],acc=>some acc
 |f:: l,acc=>if dM fr f.1<0\/fc f.2 vars[(dM fr f.1).toNat]! = false then none else dG fr vars l (acc++[vars[(dM fr f.1).toNat]!])
def dH(ns:List aR)(vars:List Val):List cE->List Exp->List Val->Except Int (List Val)
 |f:: fs,e:: es,acc=>match lz e ns vars with
  |.er c _=>.error c
  |.ok v _=>if fc f.2 v=true then dH ns vars fs es (acc++[v])else .error 13
 |_,_,acc=>.ok acc
def fZ(F:cE->cE->Bool)(old now:Mod):Bool:=decide (now.forward.length=now.vars.length)&&decide (now.back.length=old.vars.length)&&(decide (now.old.length=old.vars.length)&&cS F now.old old.vars)
def jL:Option (List Val)->Except Int (List Val)
 |some l=>.ok l
 |none=>.error 7
def dV(F:cE->cE->Bool)(old now:Mod)(vars:List Val):Except Int (List Val):=
 if dX old.vars vars=false then .error 1
 else if now.moves=false then jL (dG old.vars vars now.vars [])
 else if fZ F old now=false then .error 27
 else dH (old.vars.map (·.1)) vars now.vars now.forward []
def iG(F:cE->cE->Bool)(old now:Mod)(vars:List Val):Except Int (List Val):=
 if dX now.vars vars=false then .error 1
 else if now.moves=false then jL (dG now.vars vars old.vars [])
 else if fZ F old now=false then .error 27
 else dH (now.vars.map (·.1)) vars old.vars now.back []
def nd(F:cE->cE->Bool)(E:Val->Val->Bool)(old now:Mod)(vars:List Val):Bool:=match dV F old now vars with
 |.error _=>false
 |.ok l=>match iG F old now l with
  |.error _=>false
  |.ok m=>decide (m.length=vars.length)&&cS E m vars
theorem gX:(a:aR)->bP a a=false
 |[]=>rfl
 |x:: a=>by simp[bP,gX a]
theorem ki:(a b c:aR)->bP a b=true->bP b c=true->bP a c=true
 |_,[],c,h,_=>by cases ‹aR› <;> simp[bP]at h
 |_,_:: _,[],_,h=>by simp[bP]at h
 |[],_:: _,_:: _,_,_=>by simp[bP]
 | x:: a,y:: b,z:: c,h1,h2=>by
  simp only[bP,QF,PO,PW,Qk,UInt8.lt_iff_toNat_lt]at h1 h2 |-;rcases h1 with h1|⟨rfl,h1⟩
  ·rcases h2 with h2|⟨rfl,h2⟩
   ·exact .inl (by omega)
   ·exact .inl h1
  ·rcases h2 with h2|⟨rfl,h2⟩
   ·exact .inl h2
   ·exact .inr ⟨rfl,ki a b c h1 h2⟩
theorem mS:(a b:aR)->bP a b=false->a≠b->bP b a=true
 |[],[],_,h=>absurd rfl h
 |[],_:: _,h,_=>by simp[bP]at h
 |_:: _,[],_,_=>by simp[bP]
 | x:: a,y:: b,h1,h2=>by
  simp only[bP,Rl,Rm,QF,PO,PW,Qk,UInt8.lt_iff_toNat_lt]at h1 |-;by_cases e:x=y
  ·subst e;refine .inr ⟨rfl,mS a b ?_ fun e=>h2 (by rw[e])⟩;simpa using h1.2
  ·refine .inl ?_;have:x.toNat≠y.toNat:=fun e'=>e (SX.1 e');omega
def yI(p f:aR):gK p f=true↔bP p f=true:=by
 unfold gK;rw[QU,Rl];constructor
 ·rintro⟨h1,h2⟩;exact mS f p h1 (Qj.1 h2)
 ·intro h;refine⟨?_,?_⟩
  ·cases hc:bP f p with
   |false=>rfl
   |true=>exact absurd (ki _ _ _ h hc) (by simp[gX])
  ·rw[Qj];rintro rfl;rw[gX]at h;cases h
theorem tg{α:Type}{Q:α->α->Bool}{nm:α->aR}(hQ:∀x y,Q x y=true->bP (nm x) (nm y)=true):(l:List α)->kl Q l=true->l.Pairwise fun x y=>bP (nm x) (nm y)=true
 |[],_=>.nil
 |[x],_=>by simp
 |x:: y:: r,h=>by
  simp only[kl,PO]at h;have ih:=tg hQ (y:: r) h.2;refine .cons (fun z hz=>?_) ih;have h1:=hQ _ _ h.1;rcases Qm.1 hz with rfl|hz
  ·exact h1
  ·exact ki _ _ _ h1 ((List.pairwise_cons.1 ih).1 z hz)
end Go.Av.Ap
namespace Go.Av.Ap
open Go Go.Av
section
variable {α:Type} {f:α->AV} {sz:Nat}
end
end Go.Av.Ap
namespace Go.Av.Ap
open Go Go.Av
mutual
def Og:Ty->Val->Prop
 |.mk k fs,v=>v.kind=k/\(fs≠[]->k=2)/\Ke fs v
def Ke:List (aR×Ty)->Val->Prop
 |[],_=>True
 |f:: fs,v=>Of f v/\Ke fs v
def Of:aR×Ty->Val->Prop
 |(n,t),v=>∃x,dh v.names v.values n=some x/\Og t x
end
end Go.Av.Ap
namespace Go.Av.Ap
open Go Go.Av
abbrev Dp:=aR×aR
def xX(r:Dp):AV:=.agg [.str r.1,.str r.2]
def xY(l:List Dp):AV:=.sl (l.map xX)
def Aa(l:List (List Dp)):AV:=.sl (l.map xY)
@[simp] theorem Kw(r:Dp):aa (xX r)=[.str r.1,.str r.2]:=rfl
@[simp] theorem MK(r:Dp):AV.agg [.str r.1,.str r.2]=xX r:=rfl
@[simp] theorem Gq(r:Dp):cz 2 (xX r)=true:=rfl
@[simp] theorem LZ(l:List Dp):eD 2 (l.map xX)=true:=eT Gq l
@[simp] theorem KN(g:Nat->Nat->Nat->Nat->Bool->AV)(r:Dp):cl g (xX r)=xX r:=rfl
@[simp] theorem HG(g:Nat->Nat->Nat->Nat->Bool->AV)(l:List Dp):cl g (xY l)=xY l:=by simp[xY,cl,fN g xX (KN g)]
@[simp] theorem Mx(g:Nat->Nat->Nat->Nat->Bool->AV)(l:List (List Dp)):cl g (Aa l)=Aa l:=by simp[Aa,cl,fN g xY (HG g)]
section
variable {V:Type}
end
end Go.Av.Ap
namespace Go.Av.Ap
open Go Go.Av
mutual
def Lo:Exp->List Exp
 |.mk o n s m ns es=>.mk o n s m ns es:: Bi es
def Bi:List Exp->List Exp
 |[]=>[]
 |e:: es=>Lo e++Bi es
end
end Go.Av.Ap
namespace Go.Av
open Go
section
variable {F:Fence} {n:Nat} {P:Program} {w w':World} {ops:Array Oper} {rest:List Oper} {o:Oper} {a:Act} {Q:Exit->Act->World->Prop} {v:Value}
end
end Go.Av
namespace Go.Av.Ap
open Go Go.Av
def K7{T:TT}{t:Nat}{ti:TI}(ht:T t=some ti)(ha:ti.agg=false){h:Hp}{l k:Nat}{cs:List AV}{v:AV}(h0:h[l]? = some cs)(h1:cs[k]? = some v):bi T t (.hp l k) h= .ok v h:=by
 simp[bi,ht,h0,ha,h1]
def Iy{T:TT}{t:Nat}{ti:TI}(ht:T t=some ti){h:Hp}{l k:Nat}{cs:List AV}{v:AV}(h0:h[l]? = some cs)(hv:cz ti.size v=true)(hle:k+ti.size<=cs.length)(hp:0<ti.size):
  cq T t (.hp l k) v h= .ok (.tup []) (h.set l (setCells cs k (aa v))):=by
 simp[cq,ht,h0,hv,hle,hp]
def BO(p:List Mod):List Dp:=p.flatMap fun m=>m.funcs.map fun f=>(m.name,f.name)
theorem J4:(l:List aR)->oH l=kl bP l
 |[]=>rfl
 |[_]=>rfl
 |x:: y:: l=>by simp only[oH,kl,J4 (y:: l)]
def E4(l:List aR)(h:oH l=true):l.Pairwise fun x y=>bP x y=true:=tg (Q:=bP) (nm:=fun s=>s) (fun _ _ h=>h) l (by rw[<- J4];exact h)
theorem tI:∀ {n:Nat} {v:Val},bc n v=true->v.names.length=v.values.length/\v.names.length<=8/\∀x∈v.values,∃m,bc m x=true
 |0,v,h=>by simp[bc]at h
 | n+1,v,h=>by
  unfold bc at h;split at h
  ·simp only[PO,Qk]at h;have h1:v.values=[]:=RU.1 h.1.2;refine⟨by omega,by omega,fun x hx=>by rw[h1]at hx;cases hx⟩
  ·simp only[PO,Qk,PW,P7]at h;exact⟨h.1.1.1.2,h.1.1.2,fun x hx=>⟨n,h.2 x hx⟩⟩
theorem py{s:aR}:∀(ns:List aR)(vs:List Val)(i:Int),ns.length=vs.length->0<=i->(bj (fun x=>s== x) ns i= -1/\dh ns vs s=none)\/∃k:Nat,bj (fun x=>s== x) ns i=i+k/\k<vs.length/\dh ns vs s=vs[k]?
 |[],[],_,_,_=>.inl ⟨rfl,rfl⟩
 | n:: ns,v:: vs,i,h,hi=>by
  by_cases hn:n=s
  ·subst hn;exact .inr ⟨0,by simp[bj],by simp,by simp[dh]⟩
  ·have hn':¬(s== n)=true:=by simpa using fun e=>hn e.symm
   rcases py (s:=s) ns vs (i+1) (by simpa using h) (by omega)with⟨h1,h2⟩|⟨k,h1,h2,h3⟩
   ·exact .inl ⟨by simp only[bj];rw[if_neg hn',h1],by simp[dh,hn,h2]⟩
   ·exact .inr ⟨k+1,by simp only[bj];rw[if_neg hn',h1];omega,by simpa using h2,by simp[dh,hn,h3]⟩
 |[],_:: _,_,h,_=>by simp at h
 |_:: _,[],_,h,_=>by simp at h
theorem lL:∀(f u:Nat)(x:UInt8),x∈fC f u->48<=x.toNat/\x.toNat<=57
 |0,_,x,h=>by simp[fC]at h
 | f+1,u,x,h=>by
  simp only[fC]at h;by_cases h10:u<10
  ·rw[PT h10]at h;simp only[PV,Qt]at h;subst h;simp[RY];omega
  ·rw[PX h10]at h;simp only[P3,Qp,Qt]at h;rcases h with h|rfl
   ·exact lL f _ x h
   ·simp[RY];omega
theorem qt:∀(f u:Nat),fC (f+1) u≠[]
 |f,u=>by
  simp only[fC];cases decide (u<10)<;>simp
def zD{n:Int}(h0:0<=n):cI n=fC 20 n.toNat:=by unfold cI;rw[PX (by omega)];rfl
theorem q9:∀(f u:Nat),(fC f u).length<=f
 |0,_=>by simp[fC]
 |f+1,u=>by
  simp only[fC];cases decide (u<10)with
  |true=>simp
  |false=>have:=q9 f (u / 10);simp;omega
def Cn(n:Int):(cI n).length<=21:=by
 unfold cI;cases decide (n<0)with
 |true=>have:=q9 20 n.natAbs;simp;omega
 |false=>have:=q9 20 n.toNat;simp;omega
theorem l8(d:Nat)(hd:d<10):∀(l:aR)(acc m:Nat),Lib.parseUint10 acc l= .ok m->m*10+d<18446744073709551616->Lib.parseUint10 acc (l++[UInt8.ofNat (48+d)])= .ok (m*10+d)
 |[],acc,m,h,hm=>by
  simp only[Lib.parseUint10]at h;cases h;have e:(UInt8.ofNat (48+d)).toNat=48+d:=by simp[RY];omega
  simp only[Qv,Lib.parseUint10,e];rw[PS (by omega),if_neg (by omega),if_neg (by omega)];congr 1;omega
 | c :: l,acc,m,h,hm=>by
  simp only[QC,Lib.parseUint10]at h|-;split at h
  ·rename_i hc;rw[PS hc];split at h
   ·cases h
   ·rename_i h1;rw[if_neg h1];split at h
    ·cases h
    ·rename_i h2;rw[if_neg h2];exact l8 d hd l _ m h hm
  ·cases h
theorem l7:∀(f u:Nat),u<10 ^ (f+1)->u<18446744073709551616->Lib.parseUint10 0 (fC (f+1) u)= .ok u
 | f,u,h,hb=>by
  rw[show fC (f+1) u=bif decide (u<10)then[UInt8.ofNat (48+u)]else fC f (u / 10)++[UInt8.ofNat (48+u % 10)]from rfl];by_cases h10:u<10
  ·rw[PT h10]
   have:=l8 u h10 [] 0 0 rfl (by omega)
   simpa using this
  ·rw[PX h10];simp only[P3];cases f with
   |zero=>omega
   |succ f=>
    have ih:=l7 f (u / 10) (by rw[RL]at h;omega) (by omega);rw[l8 (u % 10) (by omega) _ 0 (u / 10) ih (by omega)];congr 1;omega
theorem yN(n:Int)(h0:-9223372036854775808<=n)(h1:n<=9223372036854775807):Lib.atoiAll (cI n)= .ok n:=by
 by_cases hn:0<=n
 ·rw[zD hn];have hp:=l7 19 n.toNat (by omega) (by omega);cases hd:fC 20 n.toNat with
  |nil=>exact absurd hd (qt 19 _)
  |cons c r=>
   have hc:=lL 20 n.toNat c (by rw[hd];simp);rw[Lib.atoiAll_plain c r (by omega) (by omega),<- hd];unfold Lib.parseMag;rw[if_neg (qt 19 _),hp];simp only[Lib.signless];rw[if_neg (by omega)];congr 1;omega
 ·have e:cI n=45:: fC 20 n.natAbs:=by unfold cI;rw[PT (by omega)];rfl
  have hp:=l7 19 n.natAbs (by omega) (by omega);have h45:(45:UInt8).toNat=45:=rfl;rw[e];unfold Lib.atoiAll;simp only[h45,or_true,PQ];unfold Lib.parseMag;rw[if_neg (qt 19 _),hp];simp only[not_true_eq_false,false_and,PP,true_and,PQ];rw[if_neg (by omega)];congr 1;omega
mutual
def OE:Ty->Exp
 |.mk k fs=>if k=0 then .mk 0 0 [] [] [] []else if k=1 then .mk 1 0 [] [] [] []else .mk 13 0 [] [] (fs.map (·.1)) (Km fs)
def Km:List (aR×Ty)->List Exp
 |[]=>[]
 |f:: fs=>OG f:: Km fs
def OG:aR×Ty->Exp
 |(_,t)=>OE t
end
def jZ:aR:=[116,114,117,101]
def gQ:aR:=[102,97,108,115,101]
def eL:Nat->Val->aR
 |0,_=>[]
 |d+1,v=>if v.kind=0 then cI v.n else if v.kind=1 then(if v.n=1 then jZ else gQ)else 123:: (b6 [44] (List.zipWith (fun n x=>n++61:: eL d x) v.names v.values)++[125])
def cO(v:Val):aR:=if bc 4 v=true then eL 4 v else[]
mutual
def lh:Val->Bool
 |.mk _ _ ns vs=>ns.all eW&&qz vs
def qz:List Val->Bool
 |[]=>true
 |v:: l=>lh v&&qz l
end
theorem pR:∀l:List Val,qz l=l.all lh
 |[]=>rfl
 |v:: l=>by rw[qz,QH,pR l]
def CJ(v:Val):lh v=(v.names.all eW&&v.values.all lh):=by
 cases v;simp only[lh,pR,Val.names,Val.values]
def cH(s:aR):Option Val:=if s=jZ then some (.mk 1 1 [] [])else if s=gQ then some (.mk 1 0 [] [])else match Lib.atoiAll s with
 |.ok n=>if cI n=s then some (.mk 0 n [] [])else none
 |_=>none
def dn(b:UInt8):Bool:=!([44,125]:aR).contains b
def eG(b:UInt8):Bool:=!([61,123,125,44]:aR).contains b
def gZ(s:aR):Option (aR×aR):=if eW (s.takeWhile eG)=true/\(s.dropWhile eG).head? = some 61 then some (s.takeWhile eG,(s.dropWhile eG).tail)else none
def gG(first:Bool)(s:aR):Option (aR×aR):=if first=true then gZ s else if s.head? = some 44 then gZ s.tail else none
def eB(rd:aR->Option (Val×aR)):Nat->List aR->List Val->aR->Option (Val×aR)
 |0,_,_,_=>none
 | f+1,ns,vs,s=>if s.head? = some 125 then some (.mk 2 0 ns vs,s.tail)else match gG ns.isEmpty s with
  |none=>none
  |some (n,r)=>match rd r with
   |none=>none
   |some (v,r')=>eB rd f (ns++[n]) (vs++[v]) r'
def ck:Nat->aR->Option (Val×aR)
 |0,_=>none
 |d+1,s=>if s.head? = some 123 then eB (ck d) s.length [] [] s.tail else match cH (s.takeWhile dn)with
  |none=>none
  |some v=>some (v,s.dropWhile dn)
def sK(p:UInt8->Bool)(s:aR):s.takeWhile p++s.dropWhile p=s:=List.takeWhile_append_dropWhile
def fo{s:aR}{c:UInt8}(h:s.head? = some c):s=c:: s.tail:=by
 cases s with
 |nil=>cases h
 |cons x s=>simp at h;subst h;rfl
def Af{s:aR}{v:Val}(h:cH s=some v)(d:Nat):eL (d+1) v=s/\lh v=true:=by
 unfold cH at h;split at h
 ·rename_i e;cases h;exact⟨by rw[e];rfl,rfl⟩
 ·split at h
  ·rename_i e;cases h;exact⟨by rw[e];rfl,rfl⟩
  ·split at h
   ·split at h
    ·rename_i e;cases h;exact⟨by rw[<- e];rfl,rfl⟩
    ·cases h
   ·cases h
def lV{s n r:aR}(h:gZ s=some (n,r)):s=n++61:: r/\eW n=true:=by
 unfold gZ at h;split at h
 ·rename_i hc;cases h;refine⟨?_,hc.1⟩;rw[<- fo hc.2,sK]
 ·cases h
def mB(d:Nat)(ns:List aR)(vs:List Val):List aR:=List.zipWith (fun n x=>n++61:: eL d x) ns vs
def yj(a b:Bool):aR:=if a=false/\b=false then[44]else[]
def FW{b:Bool}{s n r:aR}(h:gG b s=some (n,r)):s=yj b false++(n++61:: r)/\eW n=true:=by
 unfold gG at h;split at h
 ·rename_i hb;obtain⟨h1,h2⟩:=lV h;subst hb;exact⟨by simpa [yj]using h1,h2⟩
 ·rename_i hb;rw[Rc]at hb;split at h
  ·rename_i hh;obtain⟨h1,h2⟩:=lV h;subst hb;refine⟨?_,h2⟩;rw[fo hh,h1];rfl
  ·cases h
def zF(a:aR)(l:List aR):b6 [44] (a:: l)=a++(yj false l.isEmpty++b6 [44] l):=by
 cases l with
 |nil=>simp[b6,yj]
 |cons b l=>rfl
theorem jH{d:Nat}(ih:∀s v r,ck d s=some (v,r)->eL d v++r=s/\lh v=true):∀(f:Nat)(ns:List aR)(vs:List Val)(s:aR)(v:Val)(r:aR),eB (ck d) f ns vs s=some (v,r)->
  ∃ns' vs',v= .mk 2 0 (ns++ns') (vs++vs')/\ns'.length=vs'.length/\s=yj ns.isEmpty ns'.isEmpty++(b6 [44] (mB d ns' vs')++125:: r)/\ns'.all eW=true/\vs'.all lh=true
 |0,_,_,_,_,_,h=>by cases h
 | f + 1,ns,vs,s,v,r,h=>by
  rw[eB]at h;split at h
  ·rename_i hh;cases h;refine⟨[],[],by simp,rfl,?_,rfl,rfl⟩;have:yj ns.isEmpty ([]:List aR).isEmpty=[]:=by unfold yj;cases ns.isEmpty<;>rfl
   rw[this];exact fo hh
  ·cases hx:gG ns.isEmpty s with
   |none=>rw[hx]at h;cases h
   | some p=>
    obtain⟨n,r1⟩:=p;rw[hx]at h;simp only at h;cases hv:ck d r1 with
    |none=>rw[hv]at h;cases h
    | some q=>
     obtain⟨w,r2⟩:=q;rw[hv]at h;simp only at h;obtain⟨h1,h2⟩:=FW hx;obtain⟨h3,h4⟩:=ih _ _ _ hv;obtain⟨ns',vs',e1,e2,e3,e4,e5⟩:=jH ih f _ _ _ _ _ h;refine⟨n:: ns',w:: vs',by rw[e1];simp,by simp[e2],?_,by rw[QH,h2,e4];rfl,by rw[QH,h4,e5];rfl⟩;have hne:(ns++[n]).isEmpty=false:=by simp
     rw[hne]at e3;have hp:mB d (n:: ns') (w:: vs')=(n++61:: eL d w):: mB d ns' vs':=rfl;have hpe:(mB d ns' vs').isEmpty=ns'.isEmpty:=by
      unfold mB;cases ns' with
      |nil=>rfl
      |cons a ns'=>cases vs' with
       |nil=>simp at e2
       |cons=>rfl
     rw[h1,hp,zF,hpe,<- h3,e3];simp
theorem fU:∀(d:Nat)(s:aR)(v:Val)(r:aR),ck d s=some (v,r)->eL d v++r=s/\lh v=true
 |0,_,_,_,h=>by cases h
 | d+1,s,v,r,h=>by
  rw[ck]at h;split at h
  ·rename_i hh;obtain⟨ns,vs,e1,e2,e3,e4,e5⟩:=jH (fU d) _ _ _ _ _ _ h;subst e1;refine⟨?_,by rw[CJ];simp only[Val.names,Val.values,Qv,e4,e5];rfl⟩;have hs:yj ([]:List aR).isEmpty ns.isEmpty=[]:=rfl;rw[hs]at e3;rw[fo hh,e3];show (if(2:Int)=0 then _ else if(2:Int)=1 then _ else 123:: (b6 [44] (mB d ns vs)++[125]))++r=_;rw[if_neg (by decide),if_neg (by decide)];simp
  ·cases hx:cH (s.takeWhile dn)with
   |none=>rw[hx]at h;cases h
   |some w=>
    rw[hx]at h;cases h;obtain⟨h1,h2⟩:=Af hx d;exact⟨by rw[h1,sK],h2⟩
mutual
def qI:Val->Prop
 |.mk _ n _ vs=>(-9223372036854775808<=n/\n<=9223372036854775807)/\vZ vs
def vZ:List Val->Prop
 |[]=>True
 |v:: l=>qI v/\vZ l
end
theorem tP:∀l:List Val,vZ l↔∀v∈l,qI v
 |[]=>by simp[vZ]
 |v:: l=>by rw[vZ,tP l];simp
def lT(v:Val):qI v↔(-9223372036854775808<=v.n/\v.n<=9223372036854775807)/\∀x∈v.values,qI x:=by
 cases v;rw[qI,tP];rfl
theorem Aq{p:UInt8->Bool}:∀ {a rest:aR},(∀x∈a,p x=true)->(∀c,rest.head? = some c->p c=false)->(a++rest).takeWhile p=a/\(a++rest).dropWhile p=rest
 |[],rest,_,h=>by
  cases rest with
  |nil=>exact⟨rfl,rfl⟩
  |cons c r=>simp[h c rfl]
 |x:: a,rest,ha,h=>by
  have hx:=ha x QS;obtain⟨i1,i2⟩:=Aq (fun y hy=>ha y (QN _ hy)) h;simp[hx,i1,i2]
def pL(n:Int):∀x∈cI n,x=45\/(48<=x.toNat/\x.toNat<=57):=by
 intro x hx;unfold cI at hx;cases hn:decide (n<0)with
 |true=>
  rw[hn]at hx;rcases Qm.1 hx with rfl|hx
  ·exact .inl rfl
  ·exact .inr (lL 20 _ x hx)
 |false=>rw[hn]at hx;exact .inr (lL 20 _ x hx)
def yi{n:Int}(h0:-9223372036854775808<=n)(h1:n<=9223372036854775807):cH (cI n)=some (.mk 0 n [] []):=by
 have ht:cI n≠jZ:=fun e=>by
  have:=pL n 116 (by rw[e];decide)
  rcases this with h|h
  ·exact absurd h (by decide)
  ·exact absurd h.2 (by decide)
 have hf:cI n≠gQ:=fun e=>by
  have:=pL n 102 (by rw[e];decide)
  rcases this with h|h
  ·exact absurd h (by decide)
  ·exact absurd h.2 (by decide)
 unfold cH;rw[if_neg ht,if_neg hf,yN n h0 h1];simp
def zT{s:aR}(h:eW s=true):∀x∈s,eG x=true:=fun x hx=>by
 simp only[eW,PO,P7]at h;have h1:=h.2 x hx;unfold eG;have key:∀c:UInt8,cN c=false->x≠c:=fun c hc e=>by rw[e,hc]at h1;cases h1
 have e1:=key 61 (by decide);have e2:=key 123 (by decide);have e3:=key 125 (by decide);have e4:=key 44 (by decide);simp[e1,e2,e3,e4]
def xS{s:aR}(h:eW s=true):s≠[]:=fun e=>by subst e;cases h
def fK:Nat->Ty->Val
 |0,_=>.mk 0 0 [] []
 |d+1,t=>.mk t.kind 0 (t.fields.map (·.1)) (t.fields.map fun f=>fK d f.2)
def fm(t:Ty):Val:=if dx t=true then fK 4 t else .mk 0 0 [] []
end Go.Av.Ap
namespace Go.Av.Ap
mutual
def g7:Ty->Ty->Bool
 |.mk k fs,.mk k' fs'=>k== k'&&vH fs fs'
def vH:List cE->List cE->Bool
 |[],[]=>true
 |f:: l,g:: m=>GK f g&&vH l m
 |_,_=>false
def GK:aR×Ty->aR×Ty->Bool
 |(s,t),(s',t')=>s== s'&&g7 t t'
end
def CY(f g:cE):GK f g=(f.1== g.1&&g7 f.2 g.2):=by
 obtain⟨s,t⟩:=f;obtain⟨s',t'⟩:=g;rfl
theorem pU:(a b:List cE)->vH a b=cS (fun x y=>x.1== y.1&&g7 x.2 y.2) a b
 |[],[]=>rfl
 |[],_:: _=>rfl
 |_:: _,[]=>rfl
 |v:: a,w:: b=>by simp only[vH,cS,pU a b,CY]
def yg(a b:Ty):g7 a b=(a.kind== b.kind&&cS (fun x y=>x.1== y.1&&g7 x.2 y.2) a.fields b.fields):=by
 cases a;cases b;simp only[g7,pU,Ty.kind,Ty.fields]
mutual
def M9:Exp->Exp->Bool
 |.mk o n s m ns es,.mk o' n' s' m' ns' es'=>o== o'&&n== n'&&s== s'&&m== m'&&ns== ns'&&GJ es es'
def GJ:List Exp->List Exp->Bool
 |[],[]=>true
 |f:: l,g:: m=>M9 f g&&GJ l m
 |_,_=>false
end
def BH{e:Ty}{x:cE}(h:x∈e.fields):SizeOf.sizeOf x.2<SizeOf.sizeOf e:=by
 cases e with
 |mk k fs=>
  have h1:=Sv h;have h2:SizeOf.sizeOf x.2<SizeOf.sizeOf x:=by cases x;simp;omega
  have h3:SizeOf.sizeOf x<SizeOf.sizeOf fs:=h1;simp only[Ty.mk.sizeOf_spec];show SizeOf.sizeOf x.2<1+SizeOf.sizeOf k+SizeOf.sizeOf fs;omega
def KW{e x:Exp}(h:x∈e.args):SizeOf.sizeOf x<SizeOf.sizeOf e:=by
 cases e with
 |mk o n s m ns es=>
  have h1:=Sv h;have h3:SizeOf.sizeOf x<SizeOf.sizeOf es:=h1;simp only[Exp.mk.sizeOf_spec];omega
end Go.Av.Ap
namespace Go.Av.Ap
open Go Go.Av
mutual
def Dh:Val->Prop
 |.mk _ _ ns vs=>(∀s∈ns,s.length<=60)/\Dn vs
def Dn:List Val->Prop
 |[]=>True
 |v:: l=>Dh v/\Dn l
end
theorem xJ:∀l:List Val,Dn l↔∀v∈l,Dh v
 |[]=>by simp[Dn]
 |v:: l=>by rw[Dn,xJ l];simp
def Bf(v:Val):Dh v↔(∀s∈v.names,s.length<=60)/\∀x∈v.values,Dh x:=by
 cases v;rw[Dh,xJ];rfl
end Go.Av.Ap
