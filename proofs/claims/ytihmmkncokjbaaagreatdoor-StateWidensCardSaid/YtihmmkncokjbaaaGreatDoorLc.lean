/- The abstract evaluator and plain laws, part 3. Condition: the table of types is the program's. -/
import Derived.Test.YtihmmkncokjbaaaGreatDoorLb
import Derived.KernelRfl
import Derived.Below
import Derived.Lib.IndexMore
import Derived.Lib.Fields
import Derived.Lib.AtoiAll
import Derived.Lib.SplitLaws
import Derived.IntWalk
import Derived.Shelf.SlSortCmp.WholeK
import Derived.Lib.Bytealg
import Derived.Shelf.Strings.IndexAnyAll
import Derived.Shelf.Small.Utf8
import Derived.Laws.RangeAny
import Derived.Laws.Runes
import Derived.Scope
import Derived.Shelf.RegionOpenPlain
import Derived.Lib.DecodeN
import Derived.Lib.OthersKept
import Derived.Lib.Small
import Derived.Laws.CopyRow
import Derived.Deep.AppendSrc
import Derived.Lib.AppendZerosOnto
import Derived.Lib.Overlaps
import Derived.ChangeSame
import Derived.OpenShut
import Derived.ChangeReads
import Derived.ReadAgain
import Derived.Deep.Slices
import Derived.WideShapes
import Derived.SizedLaws
import Derived.Sort.AssemblyPlain
import Derived.Sort.MapsRangeIn
import Derived.Maps.OwnIn
import Derived.RangeFuncSeq
import Derived.Lib.AtoiAllCases
import Derived.Lib.Split
import Derived.Lib.IndexBytes
set_option linter.defProp false
set_option linter.unusedSimpArgs false
set_option linter.unusedVariables false
namespace Go.Av
variable [Dr]
omit [Dr]in
theorem xd{a b:Option (Nat×Bool)}(h:tC a b=true):a=b:=by
 unfold tC at h;split at h
 ·rfl
 ·simp only[F8,GU]at h;rw[Gh h.1,h.2]
 ·cases h
def eu(gs:List (Option (Nat×Bool)×List Nat)):List Nat:=gs.flatMap (·.2)
omit [Dr]in
theorem e8(ops:Array Oper):∀l:List Nat,eu (ck ops l)=l/\∀g∈ck ops l,∀i∈g.2,guardOf ops i=g.1
 |[]=>⟨rfl,by simp[ck]⟩
 | i :: is=>by
  obtain⟨h1,h2⟩:=e8 ops is;simp only[ck];cases hg:ck ops is with
  |nil=>
   rw[hg]at h1;have:is=[]:=by simpa [eu]using h1.symm
   subst this;exact⟨rfl,by simp⟩
  | cons x r=>
   obtain⟨g,js⟩:=x;rw[hg]at h1 h2;simp only;cases hs:tC (guardOf ops i) g with
   | true=>
    refine⟨?_,fun y hy=>?_⟩
    ·simp only[F9,eu,H8,GJ]at h1 |-;rw[h1]
    ·simp only[F9,Gt]at hy;rcases hy with rfl|hy
     ·intro k hk;simp only[Gt]at hk;rcases hk with rfl|hk
      ·exact xd hs
      ·exact h2 (g,js) (by simp) k hk
     ·exact h2 y (by simp[hy])
   | false=>
    refine⟨?_,fun y hy=>?_⟩
    ·simp only[Gd,eu,H8,GJ,GQ]at h1 |-;rw[h1]
    ·simp only[Gd,Gt]at hy;rcases hy with rfl|rfl|hy
     ·intro k hk;simp only[Hs]at hk;subst hk;rfl
     ·exact h2 (g,js) (by simp)
     ·exact h2 y (by simp[hy])
omit [Dr]in
theorem px{ρ:Type}(e:Env)(d:Option Tmp)(A:Act1)(k:Env->M ρ):iS e d A k=af (b8 A) fun u=>k (e.upd d u):=by
 cases A with
 |bad=>rfl
 |stat u=>rfl
 |dyn m sh=>simp only[iS,b8,cO,aO]
 |thr v=>rfl
omit [Dr]in
theorem tQ{α β:Type}{m:M α}{f g:α->M β}{h:Hp}(hfg:∀u h',m h= .ok u h'->f u h'=g u h'):af m f h=af m g h:=by
 simp only[af];cases hm:m h with
 |ok u h'=>exact hfg u h' hm
 |pan v h'=>rfl
 |fail=>rfl
section
variable {cx:Cx} {ops:Array Oper} {base:Nat}
omit [Dr]in
theorem tJ{i:Nat}{o:Oper}(ho:ops[i]? = some o)(hg:guardOf ops i=none)(e:Env):de cx base ops i e=b8 (dq cx e ((base+i)*1000) o):=by
 have:o.guard=none:=by simpa [guardOf,ho]using hg
 unfold de;rw[ho];simp only;rw[this]
omit [Dr]in
theorem jr{i j t:Nat}{want:Bool}{o:Oper}(ho:ops[i]? = some o)(hg:guardOf ops i=some (j,want))(hj:cj ops j=some t)(hp:da cx o=true)(e:Env):
  de cx base ops i e=fX (e.av t) want (b8 (et (dq cx e ((base+i)*1000) o))):=by
 have:o.guard=some (j,want):=by simpa [guardOf,ho]using hg
 unfold de;rw[ho];simp only;rw[this];simp only;rw[hj];simp only;rw[hp];rfl
omit [Dr]in
theorem qF{ρ:Type}:∀(is:List Nat)(e:Env)(k:Env->M ρ)(_:∀i∈is,guardOf ops i=none),eY cx base ops false is e k=af (aL cx base ops is e) k
 |[],e,k,_=>rfl
 | i:: is,e,k,hg=>by
  simp only[eY,aL];unfold stepG;cases ho:ops[i]? with
  |none=>unfold de;rw[ho];rfl
  |some o=>
   simp only;rw[px,tJ ho (hg i (by simp)),cO,cO];have hd:cj ops i=o.dst:=by simp[cj,ho]
   rw[hd];congr 1;funext u;simp only[aO];exact qF is _ k fun j hj=>hg j (by simp[hj])
structure Turned (ds:List Nat) (e e':Env):Prop where
 get:∀t,t ∉ ds->e'.get t=e.get t
 al:e'.al=e.al
 lb:e'.lb=e.lb
 lf:∀B,aM e.sl B=true->aM e'.sl B=true
 ng:∀t∈ds,(e'.get t).g=none
omit [Dr]in
theorem Turned.step{ds:List Nat}{e e':Env}(H:Turned ds e e'){u:Upd}{d:Option Nat}(hls:u.ls=[])(hadd:u.add=[])(hdrop:u.drop=none)(hlb:u.lb=none)(hunlb:u.unlb=none)(hg:u.ent.g=none)(hloc:∀C off,u.ent.v= .loc C off->∃t off',(e'.get t).v= .loc C off'):Turned (d.toList++ds) e (e'.upd d u):=by
 have hget:∀t,(e'.upd d u).get t=if d=some t then u.ent else e'.get t:=fun t=>by rw[bB,hls];rfl
 refine⟨fun t ht=>?_,?_,?_,fun B hB=>?_,fun t ht=>?_⟩
 ·simp only[Gx,not_or,HM]at ht;rw[hget,if_neg ht.1];exact H.get t ht.2
 ·show u.add++cP e'.al u.drop=e.al;rw[hadd,hdrop];exact H.al
 ·show gd (cu e'.lb u.unlb) u.lb=e.lb;rw[hlb,hunlb];exact H.lb
 ·have h1:=H.lf B hB;show aM (mu d u.ent (u.ls++e'.sl)) B=true;rw[hls,cW,GQ,h1,HU];have:iR u.ent B=true:=by
   unfold iR;split
   ·rename_i C off hv;obtain⟨t,off',ht⟩:=hloc C off hv
    have:=fL h1 ht
    rw[GW,Hd];intro hh;exact this (Gh hh)
   ·rfl
  rw[this,Bool.or_true]
 ·rw[hget];split
  ·exact hg
  ·rename_i hd;simp only[Gx,HM]at ht;rcases ht with ht|ht
   ·exact absurd ht hd
   ·exact H.ng t ht
omit [Dr]in
theorem Turned.refl(e:Env):Turned [] e e:=⟨fun _ _=>rfl,rfl,rfl,fun _ h=>h,fun t h=>by simp at h⟩
omit [Dr]in
theorem Turned.sub{ds ds':List Nat}{e e':Env}(H:Turned ds e e')(h:∀t,t∈ds↔t∈ds'):Turned ds' e e':=
 ⟨fun t ht=>H.get t fun hh=>ht ((h t).1 hh),H.al,H.lb,H.lf,fun t ht=>H.ng t ((h t).2 ht)⟩
structure GroupOk (cx:Cx) (ops:Array Oper) (j:Nat) (want:Bool) (t:Nat) (is:List Nat):Prop where
 hj:cj ops j=some t
 each:∀i∈is,∃o,ops[i]? = some o/\guardOf ops i=some (j,want)/\da cx o=true
 nt:t ∉ bK ops is
omit [Dr]in
theorem eW(i:Nat)(is:List Nat):∀t,t∈bK ops (i:: is)↔cj ops i=some t\/t∈bK ops is:=by
 intro t;unfold bK;simp only[H4,Gt,exists_eq_or_imp]
omit [Dr]in
theorem GroupOk.tail{j:Nat}{want:Bool}{t i:Nat}{is:List Nat}(G:GroupOk cx ops j want t (i:: is)):GroupOk cx ops j want t is:=
 ⟨G.hj,fun k hk=>G.each k (by simp[hk]),fun h=>G.nt ((eW i is t).2 (.inr h))⟩
omit [Dr]in
theorem GroupOk.ne{j:Nat}{want:Bool}{t i:Nat}{is:List Nat}(G:GroupOk cx ops j want t (i:: is)):cj ops i≠some t:=fun h=>G.nt ((eW i is t).2 (.inl h))
omit [Dr]in
theorem fV{A:Act1}{h h':Hp}{u:Upd}(hr:b8 (et A) h= .ok u h'):∃u0,b8 A h= .ok u0 h'/\u=dU u0:=by
 rw[jV]at hr;cases hx:b8 A h<;>rw[hx]at hr<;>simp at hr;exact⟨_,by rw[hr.2],hr.1.symm⟩
omit [Dr]in
theorem nH{ρ:Type}{j:Nat}{want:Bool}{t:Nat}:∀(is:List Nat)(e:Env)(k:Env->M ρ)(h:Hp),GroupOk cx ops j want t is->e.av t= .bool want->eY cx base ops true is e k h=af (aL cx base ops is e) k h
 |[],e,k,h,_,_=>rfl
 |i:: is,e,k,h,G,hc=>by
  obtain⟨o,ho,hg,hp⟩:=G.each i (by simp);have hd:cj ops i=o.dst:=by simp[cj,ho]
  simp only[eY,aL,ho,F9];rw[px];unfold stepG;rw[jr ho hg G.hj hp,hc,cO,cO];simp only[fX,HG,F9,aO,hd];refine tQ fun u h' hu=>?_;obtain⟨u0,hu0,rfl⟩:=fV hu;refine nH is _ k h' G.tail ?_;have:(e.upd o.dst (dU u0)).get t=e.get t:=by rw[bB,if_neg (by rw[<- hd];exact G.ne)];rfl
  simp only[Env.av,this];exact hc
omit [Dr]in
theorem jm{j:Nat}{want:Bool}{t:Nat}:∀(is:List Nat)(e e':Env)(h h':Hp),GroupOk cx ops j want t is->e.av t= .bool want->aL cx base ops is e h= .ok e' h'->Turned (bK ops is) e e':=by
 have key:∀(is:List Nat)(e0 e e':Env)(ds:List Nat)(h h':Hp),GroupOk cx ops j want t is->e.av t= .bool want->Turned ds e0 e->aL cx base ops is e h= .ok e' h'->Turned (bK ops is++ds) e0 e':=by
  intro is
  induction is with
  |nil=>
   intro e0 e e' ds h h' _ _ H hr;cases hr;exact H
  | cons i is ih=>
   intro e0 e e' ds h h' G hc H hr;obtain⟨o,ho,hg,hp⟩:=G.each i (by simp);have hd:cj ops i=o.dst:=by simp[cj,ho]
   simp only[aL]at hr;unfold stepG at hr;rw[jr ho hg G.hj hp,hc,cO]at hr;simp only[fX,HG,F9,hd,af]at hr;cases hx:b8 (et (dq cx e ((base+i)*1000) o)) h with
   |fail=>rw[hx]at hr;cases hr
   |pan v hh=>rw[hx]at hr;cases hr
   | ok u hh=>
    rw[hx]at hr;simp only at hr;obtain⟨u0,hu0,rfl⟩:=fV hx;have hsh:=gI (gU cx e ((base+i)*1000) o) hu0;simp only[da,F8,GW]at hp;have H2:=H.step (u:=dU u0) (d:=o.dst) rfl rfl rfl rfl rfl rfl (hsh.loc hp.1);refine (ih e0 _ e' _ hh h' G.tail ?_ H2 hr).sub fun s=>?_
    ·have:(e.upd o.dst (dU u0)).get t=e.get t:=by rw[bB,if_neg (by rw[<- hd];exact G.ne)];rfl
     simp only[Env.av,this];exact hc
    ·simp only[Gx,eW,HM,hd];constructor
     ·rintro (h|h|h)
      ·exact .inl (.inr h)
      ·exact .inl (.inl h)
      ·exact .inr h
     ·rintro ((h|h)|h)
      ·exact .inr (.inl h)
      ·exact .inl h
      ·exact .inr (.inr h)
 intro is e e' h h' G hc hr;exact (key is e e e' [] h h' G hc (.refl e) hr).sub (by simp)
def Off(c:AV)(want:Bool):Prop:=c= .tup []\/∃b,c= .bool b/\(b== want)=false
omit [Dr]in
theorem Off.look{c:AV}{want:Bool}(h:Off c want)(m:M Upd):fX c want m=aw (.ofV (.tup [])):=by
 rcases h with rfl|⟨b,rfl,hb⟩
 ·rfl
 ·simp only[fX,hb,Gd]
omit [Dr]in
theorem yW{j:Nat}{want:Bool}{t:Nat}:∀(is:List Nat)(e:Env)(h:Hp),GroupOk cx ops j want t is->Off (e.av t) want->∃e',aL cx base ops is e h= .ok e' h/\Turned (bK ops is) e e'/\∀s∈bK ops is,e'.get s=⟨.val (.tup []),none⟩:=by
 have key:∀(is:List Nat)(e0 e:Env)(ds:List Nat)(h:Hp),GroupOk cx ops j want t is->Off (e.av t) want->Turned ds e0 e->(∀s∈ds,e.get s=⟨.val (.tup []),none⟩)->
   ∃e',aL cx base ops is e h= .ok e' h/\Turned (bK ops is++ds) e0 e'/\∀s∈bK ops is++ds,e'.get s=⟨.val (.tup []),none⟩:=by
  intro is
  induction is with
  |nil=>exact fun e0 e ds h _ _ H hds=>⟨e,rfl,H,hds⟩
  | cons i is ih=>
   intro e0 e ds h G hc H hds;obtain⟨o,ho,hg,hp⟩:=G.each i (by simp);have hd:cj ops i=o.dst:=by simp[cj,ho]
   have hget:∀s,(e.upd o.dst (.ofV (.tup []))).get s=if o.dst=some s then⟨.val (.tup []),none⟩else e.get s:=fun s=>by rw[bB];rfl
   have H2:=H.step (u:=.ofV (.tup [])) (d:=o.dst) rfl rfl rfl rfl rfl rfl (fun C off hh=>by cases hh);have hav:(e.upd o.dst (.ofV (.tup []))).av t=e.av t:=by
    have:(e.upd o.dst (.ofV (.tup []))).get t=e.get t:=by rw[hget,if_neg (by rw[<- hd];exact G.ne)]
    simp only[Env.av,this]
   obtain⟨e',h1,h2,h3⟩:=ih e0 (e.upd o.dst (.ofV (.tup []))) (o.dst.toList++ds) h G.tail (by rw[hav];exact hc) H2 (fun s hs=>by
    rw[hget];split
    ·rfl
    ·rename_i hn;simp only[Gx,HM]at hs;rcases hs with hs|hs
     ·exact absurd hs hn
     ·exact hds s hs)
   have hiff:∀s,s∈bK ops is++(o.dst.toList++ds)↔s∈bK ops (i:: is)++ds:=fun s=>by
    simp only[Gx,eW,HM,hd];constructor
    ·rintro (h|h|h)
     ·exact .inl (.inr h)
     ·exact .inl (.inl h)
     ·exact .inr h
    ·rintro ((h|h)|h)
     ·exact .inr (.inl h)
     ·exact .inl h
     ·exact .inr (.inr h)
   refine⟨e',?_,h2.sub hiff,fun s hs=>h3 s ((hiff s).2 hs)⟩;simp only[aL];unfold stepG;rw[jr ho hg G.hj hp,hc.look,hd];exact h1
 intro is e h G hc;obtain⟨e',h1,h2,h3⟩:=key is e e [] h G hc (.refl e) (by simp);exact⟨e',h1,h2.sub (by simp),fun s hs=>h3 s (by simp[hs])⟩
end
end Go.Av
namespace Go.Av
variable [Dr]
section
variable {cx:Cx} {ops:Array Oper} {base:Nat}
structure Rel (ops:Array Oper) (L:List Nat) (e2 e:Env):Prop where
 get:∀t,e2.get t=e.get t\/(e2.get t=Ent.none/\t<1000/\∀i∈L,t ∉ bQ ops i)
 al:∀g,aA e2.al g=aA e.al g
 lb:∀B,aI e2.lb B=aI e.lb B
 lf:∀B,aM e2.sl B=true->aM e.sl B=true
omit [Dr]in
theorem Rel.refl(ops:Array Oper)(L:List Nat)(e:Env):Rel ops L e e:=⟨fun _=>.inl rfl,fun _=>rfl,fun _=>rfl,fun _ h=>h⟩
omit [Dr]in
theorem Rel.sub{L L':List Nat}{e2 e:Env}(H:Rel ops L e2 e)(h:∀i∈L',i∈L):Rel ops L' e2 e:=
 ⟨fun t=>(H.get t).imp id fun⟨h1,h2,h3⟩=>⟨h1,h2,fun i hi=>h3 i (h i hi)⟩,H.al,H.lb,H.lf⟩
omit [Dr]in
theorem Rel.read{L:List Nat}{e2 e:Env}(H:Rel ops L e2 e){i t:Nat}(hi:i∈L)(ht:t∈bQ ops i):e.get t=e2.get t:=by
 rcases H.get t with h|⟨_,_,h⟩
 ·exact h.symm
 ·exact absurd ht (h i hi)
omit [Dr]in
theorem Rel.agree{L:List Nat}{e2 e:Env}(H:Rel ops L e2 e){i:Nat}{o:Oper}(hi:i∈L)(ho:ops[i]? = some o):Agree cx o e2 e:=by
 refine⟨fun t ht=>H.read hi (by rw[dO ho];simp[ht]),fun _=>.inl ⟨fun t ht=>?_,fun B=>(H.lb B).symm⟩,fun _ g=>(H.al g).symm,fun _ s _ hl=>H.lf _ hl⟩;rcases H.get t with h|⟨_,h,_⟩
 ·exact h.symm
 ·omega
omit [Dr]in
theorem Rel.upd{L:List Nat}{e2 e:Env}(H:Rel ops L e2 e)(d:Option Tmp)(u:Upd):Rel ops L (e2.upd d u) (e.upd d u):=by
 refine⟨fun t=>?_,fun g=>?_,fun B=>?_,fun B hB=>?_⟩
 ·rw[bB,bB];split
  ·exact .inl rfl
  ·rw[fl,fl];split
   ·exact .inl rfl
   ·exact H.get t
 ·show aA (u.add++cP e2.al u.drop) g=aA (u.add++cP e.al u.drop) g;have:aA (cP e2.al u.drop) g=aA (cP e.al u.drop) g:=by
   cases u.drop with
   |none=>exact H.al g
   |some k=>simp only[cP,ge,H.al g]
  rw[cS,cS,this]
 ·show aI (gd (cu e2.lb u.unlb) u.lb) B=aI (gd (cu e.lb u.unlb) u.lb) B;have:aI (cu e2.lb u.unlb) B=aI (cu e.lb u.unlb) B:=by
   cases u.unlb with
   |none=>exact H.lb B
   |some k=>simp only[cu,i8,H.lb B]
  cases u.lb with
  |none=>exact this
  |some x=>
   obtain⟨k,n⟩:=x;simp only[gd,cm,this]
 ·have hB':aM (mu d u.ent (u.ls++e2.sl)) B=true:=hB;show aM (mu d u.ent (u.ls++e.sl)) B=true;rw[cW,d9]at hB' |-;simp only[F8]at hB' |-;exact⟨hB'.1,hB'.2.1,H.lf B hB'.2.2⟩
omit [Dr]in
theorem Rel.run:∀(is:List Nat){L:List Nat}{e2 e:Env}(_:Rel ops L e2 e)(_:∀i∈is,i∈L)(h:Hp),aL cx base ops is e2 h≠.fail->
  (∃e2' e' h',aL cx base ops is e2 h= .ok e2' h'/\aL cx base ops is e h= .ok e' h'/\Rel ops L e2' e')\/∃v h',aL cx base ops is e2 h= .pan v h'/\aL cx base ops is e h= .pan v h'
 |[],L,e2,e,H,_,h,_=>.inl ⟨e2,e,h,rfl,rfl,H⟩
 | i:: is,L,e2,e,H,hL,h,hr=>by
  simp only[aL]at hr |-;unfold stepG at hr |-;simp only[af,aw]at hr |-;cases hx:de cx base ops i e2 h with
  |fail=>rw[hx]at hr;exact absurd rfl hr
  | _ =>
   have ho:∃o,ops[i]? = some o:=by
    cases ho:ops[i]? with
    |none=>unfold de at hx;rw[ho]at hx;cases hx
    |some o=>exact⟨o,rfl⟩
   obtain⟨o,ho⟩:=ho;have hi:=hL i (by simp);have hy:de cx base ops i e h=de cx base ops i e2 h:=dJ ho (fun t ht=>H.read hi (by rw[dO ho];simp[ht])) (H.agree hi ho) (by rw[hx];simp);rw[hy,hx]
   first
    | rw[hx]at hr
      exact Rel.run is (H.upd _ _) (fun k hk=>hL k (by simp[hk])) _ hr
    |exact .inr ⟨_,_,rfl,rfl⟩
omit [Dr]in
theorem lu(e:Env):∀(ds:List Nat)(t:Nat),(forget e ds).get t=if t∈ds then Ent.none else e.get t
 |[],t=>by simp[forget]
 | d:: ds,t=>by
  show bi ((d,Ent.none):: (forget e ds).sl) t=_;rw[bw];by_cases hd:d=t
  ·subst hd;simp
  ·rw[if_neg hd]
   have:=lu e ds t
   simp only[Env.get]at this;rw[this];have hd':¬t=d:=fun h=>hd h.symm;simp[hd',Env.get]
omit [Dr]in
theorem kj(e:Env):∀(ds:List Nat),(forget e ds).al=e.al/\(forget e ds).lb=e.lb/\∀B,aM (forget e ds).sl B=aM e.sl B
 |[]=>⟨rfl,rfl,fun _=>rfl⟩
 |_d:: ds=>kj e ds
omit [Dr]in
theorem ku(e:Env)(f:Nat->AV):∀(outs:List Nat)(pre:List AV)(t:Nat),(dF e (pre++outs.map f) pre.length outs).get t=if t∈outs then⟨.val (f t),none⟩else e.get t
 |[],pre,t=>by simp[dF]
 | d:: ds,pre,t=>by
  show bi ((d,⟨.val (ah (pre++(d:: ds).map f) pre.length),none⟩):: (dF e (pre++(d:: ds).map f) (pre.length+1) ds).sl) t=_;rw[bw];have hn:ah (pre++(d:: ds).map f) pre.length=f d:=by simp[ah]
  by_cases hd:d=t
  ·subst hd;rw[hn];simp
  ·rw[if_neg hd]
   have:=ku e f ds (pre++[f d]) t
   simp only[GI,Gf,Gu,GM,List.singleton_append]at this;simp only[Env.get,GY]at this |-;rw[this];have hd':¬t=d:=fun h=>hd h.symm;simp[hd']
omit [Dr]in
theorem jj(e:Env)(vs:List AV):∀(outs:List Nat)(i:Nat),(dF e vs i outs).al=e.al/\(dF e vs i outs).lb=e.lb/\∀B,aM (dF e vs i outs).sl B=aM e.sl B
 |[],_i=>⟨rfl,rfl,fun _=>rfl⟩
 |_d:: ds,i=>jj e vs ds (i+1)
omit [Dr]in
theorem sC(gs:List (Option (Nat×Bool)×List Nat))(t:Nat):sB ops gs t=true↔∃i∈eu gs,t∈bQ ops i:=by
 unfold sB eu;simp only[List.any_eq_true,IG,eb];constructor
 ·rintro⟨g,hg,i,hi,ht⟩;exact⟨i,⟨g,hg,hi⟩,ht⟩
 ·rintro⟨i,⟨g,hg,hi⟩,ht⟩;exact⟨g,hg,i,hi,ht⟩
omit [Dr]in
theorem Rel.close{is:List Nat}{gs:List (Option (Nat×Bool)×List Nat)}{e2 e e':Env}(H:Rel ops (is++eu gs) e2 e)(hS:Small ops)(T:Turned (bK ops is) e e'){vs:List AV}{f:Nat->AV}(hvs:vs=(bZ ops is gs).map f)(hf:∀t∈bZ ops is gs,e'.get t=⟨.val (f t),none⟩\/(f t= .any/\t<1000/\∀i∈eu gs,t ∉ bQ ops i)):Rel ops (eu gs) (dF (forget e2 (bK ops is)) vs 0 (bZ ops is gs)) e':=by
 have hr:=jj (forget e2 (bK ops is)) vs (bZ ops is gs) 0;have hr2:=kj e2 (bK ops is);refine⟨fun t=>?_,fun g=>?_,fun B=>?_,fun B hB=>?_⟩
 ·have hg:=ku (forget e2 (bK ops is)) f (bZ ops is gs) [] t;simp only[GQ,GM]at hg;rw[hvs,hg];split
  ·rename_i ht;rcases hf t ht with h|⟨h1,h2,h3⟩
   ·exact .inl h.symm
   ·exact .inr ⟨by rw[h1];rfl,h2,h3⟩
  ·rename_i ht;rw[lu];split
   ·rename_i hd;refine .inr ⟨rfl,?_,fun i hi hti=>ht ?_⟩
    ·unfold bK at hd;simp only[H4]at hd;obtain⟨i,hi,hd⟩:=hd;unfold cj at hd;cases hoi:ops[i]? with
     |none=>rw[hoi]at hd;simp at hd
     |some o=>rw[hoi]at hd;exact hS.dst i o hoi t hd
    ·unfold bZ;rw[IV];exact⟨hd,(sC gs t).2 ⟨i,hi,hti⟩⟩
   ·rename_i hd;rw[T.get t hd];rcases H.get t with h|⟨h1,h2,h3⟩
    ·exact .inl h
    ·exact .inr ⟨h1,h2,fun i hi=>h3 i (by simp[hi])⟩
 ·rw[hr.1,hr2.1,T.al];exact H.al g
 ·rw[hr.2.1,hr2.2.1,T.lb];exact H.lb B
 ·rw[hr.2.2,hr2.2.2]at hB;exact T.lf B (H.lf B hB)
omit [Dr]in
theorem l9(l m:List Nat):∀e:Env,aL cx base ops (l++m) e=af (aL cx base ops l e) (aL cx base ops m):=by
 induction l with
 |nil=>intro e;rfl
 |cons i l ih=>
  intro e;show af (stepG cx base ops i e) (aL cx base ops (l++m))=af (af (stepG cx base ops i e) (aL cx base ops l)) (aL cx base ops m);rw[cO];congr 1;funext e';exact ih e'
omit [Dr]in
theorem yq{x:Ent}(h1:iE x=true)(h2:x.g=none):x=⟨.val x.av,none⟩:=by
 obtain⟨v,g⟩:=x;cases v with
 |val a=>simp only at h2;subst h2;rfl
 |loc B off=>cases h1
omit [Dr]in
theorem fh{ρ:Type}(hS:Small ops):∀(gs:List (Option (Nat×Bool)×List Nat))(e2 e:Env)(k:Env->M ρ)(h:Hp),(∀g∈gs,∀i∈g.2,guardOf ops i=g.1)->Rel ops (eu gs) e2 e->cG cx base ops gs e2 k h≠.fail->
  (∃e2' e' h',cG cx base ops gs e2 k h=k e2' h'/\aL cx base ops (eu gs) e h= .ok e' h'/\Rel ops [] e2' e')\/∃v h',cG cx base ops gs e2 k h= .pan v h'/\aL cx base ops (eu gs) e h= .pan v h'
 |[],e2,e,k,h,_,H,_=>.inl ⟨e2,e,h,rfl,rfl,H⟩
 | (none,is):: gs,e2,e,k,h,hg,H,hr=>by
  have hg0:∀i∈is,guardOf ops i=none:=hg (none,is) (by simp);have hfl:eu ((none,is):: gs)=is++eu gs:=rfl;rw[hfl]at H |-;rw[l9];simp only[cG]at hr |-;rw[qF is e2 _ hg0]at hr |-;simp only[af]at hr |-;have hr2:aL cx base ops is e2 h≠.fail:=fun hf=>by rw[hf]at hr;exact hr rfl
  rcases H.run (base:=base) (cx:=cx) is (fun i hi=>by simp[hi]) h hr2 with⟨e2',e',h',h1,h2,H'⟩|⟨v,h',h1,h2⟩
  ·rw[h1]at hr |-;rw[h2];exact fh hS gs e2' e' k h' (fun g hgg=>hg g (by simp[hgg])) (H'.sub fun i hi=>by simp[hi]) hr
  ·rw[h1,h2];exact .inr ⟨v,h',rfl,rfl⟩
 | (some (j,want),is):: gs,e2,e,k,h,hg,H,hr=>by
  have hg0:∀i∈is,guardOf ops i=some (j,want):=hg (some (j,want),is) (by simp);have hfl:eu ((some (j,want),is):: gs)=is++eu gs:=rfl;rw[hfl]at H |-;rw[l9];simp only[cG]at hr |-;cases hdj:cj ops j with
  |none=>rw[hdj]at hr;exact absurd rfl hr
  | some t=>
   rw[hdj]at hr;simp only at hr |-;revert hr;cases hc:((is.all fun i=>match ops[i]? with|some o=>da cx o&&o.dst.isSome|none=>false)&&!(dp (bK ops is) t))with
   |false=>intro hr;exact absurd rfl hr
   | true=>
    intro hr;simp only[F9]at hr |-;simp only[F8,GW,Gk]at hc;have G:GroupOk cx ops j want t is:=by
     refine⟨hdj,fun i hi=>?_,fun ht=>?_⟩
     ·have:=hc.1 i hi
      cases hoi:ops[i]? with
      |none=>rw[hoi]at this;cases this
      |some o=>
       rw[hoi]at this;simp only[F8]at this;exact⟨o,rfl,hg0 i hi,this.1⟩
     ·rw[(eb _ _).2 ht]at hc;exact Bool.noConfusion hc.2
    have htr:∀i∈is,t∈bQ ops i:=fun i hi=>by
     obtain⟨o,ho,hgi,_⟩:=G.each i hi;rw[dO ho];have:o.guard=some (j,want):=by simpa [guardOf,ho]using hgi
     have:t∈c6 ops o:=by
      unfold c6;rw[this];simp only;rw[show (ops[j]?).bind (·.dst)=some t from hdj];simp
     simp[this]
    -- the guard says yes
    cases is with
    | nil=>
     have hrn:∀e,aL cx base ops [] e=aw e:=fun _=>rfl;rw[hrn,aO];have ho:bZ ops [] gs=[]:=rfl;have hd:bK ops []=[]:=rfl;rw[ho,hd]at hr |-;have hpure:∀ {q:AV} {m:M (List AV)},m h= .ok [] h->ax q want ([]:List Nat).length m h≠.fail->ax q want ([]:List Nat).length m h= .ok [] h:=by
      intro q m hm hne;cases q with
      |bool b=>
       simp only[ax];cases b== want with
       |true=>exact hm
       |false=>rfl
      |tup vs=>
       cases vs with
       |nil=>rfl
       |cons v vs=>exact absurd rfl hne
      |_=>exact absurd rfl hne
     simp only[af]at hr |-;have hp:=hpure (q:=e2.av t) (m:=eY cx base ops true [] e2 fun e'=>bif ([]:List Nat).all (fun t=>iE (e'.get t))then aw (([]:List Nat).map e'.av)else c7) rfl (fun hf=>by rw[hf]at hr;exact hr rfl);rw[hp]at hr |-;exact fh hS gs e2 e k h (fun g hgg=>hg g (by simp[hgg])) (H.sub fun i hi=>by simp[hi]) hr
    |cons i0 is0=>
    have hav:e.av t=e2.av t:=by
     have:=H.read (i:=i0) (by simp) (htr i0 (by simp))
     simp only[Env.av,this]
    generalize hiseq:i0:: is0=is at *;have hoff:Off (e2.av t) want->(ax (e2.av t) want (bZ ops is gs).length (eY cx base ops true is e2 fun e'=>bif (bZ ops is gs).all (fun t=>iE (e'.get t))then aw ((bZ ops is gs).map e'.av)else c7))=aw (List.replicate (bZ ops is gs).length (.tup [])):=by
     rintro (hq|⟨b,hq,hb⟩)
     ·rw[hq];rfl
     ·rw[hq];simp only[ax,hb,Gd]
    have hcase:Off (e2.av t) want\/e2.av t= .bool want:=by
     cases hq:e2.av t with
     |bool b=>
      cases hb:(b== want)with
      |true=>right;simp at hb;rw[hb]
      |false=>exact .inl (.inr ⟨b,rfl,hb⟩)
     |tup vs=>
      cases vs with
      |nil=>exact .inl (.inl rfl)
      |cons v vs=>rw[hq]at hr;exact absurd rfl hr
     |_=>rw[hq]at hr;exact absurd rfl hr
    rcases hcase with ho|hy
    ·rw[hoff ho,aO]at hr |-;obtain⟨e',h1,T,h2⟩:=yW (base:=base) is e h G (by rw[hav];exact ho);simp only[af];rw[h1];refine fh hS gs _ e' k h (fun g hgg=>hg g (by simp[hgg])) (H.close hS T (f:=fun _=>.tup []) ?_ fun s hs=>.inl ?_) hr
     ·exact (List.map_const' ..).symm
     ·refine h2 s ?_;unfold bZ at hs;exact (IV.1 hs).1
    ·rw[hy]at hr |-;simp only[ax,HG,F9,af]at hr |-;rw[nH is e2 _ h G hy]at hr |-;simp only[af]at hr |-;have hr2:aL cx base ops is e2 h≠.fail:=fun hf=>by rw[hf]at hr;exact hr rfl
     rcases H.run (base:=base) (cx:=cx) is (fun i hi=>by simp[hi]) h hr2 with⟨e2',e',h',h1,h2,H'⟩|⟨v,h',h1,h2⟩
     ·rw[h1]at hr |-;rw[h2];simp only at hr |-;have T2:=jm is e2 e2' h h' G hy h1;have T:=jm is e e' h h' G (by rw[hav];exact hy) h2;cases hv:(bZ ops is gs).all (fun t=>iE (e2'.get t))with
      |false=>rw[hv]at hr;exact absurd rfl hr
      |true=>
       rw[hv]at hr;simp only[F9,aw]at hr |-;refine fh hS gs _ e' k h' (fun g hgg=>hg g (by simp[hgg])) (H.close hS T (f:=e2'.av) rfl fun s hs=>?_) hr;have hsd:s∈bK ops is:=by unfold bZ at hs;exact (IV.1 hs).1
       have hval:=yq (Gk.1 hv s hs) (T2.ng s hsd);rcases H'.get s with h3|⟨h3,h4,h5⟩
       ·left;rw[<- h3];exact hval
       ·right;exact⟨by simp only[Env.av,h3];rfl,h4,fun i hi=>h5 i (by simp[hi])⟩
     ·rw[h1,h2];exact .inr ⟨v,h',rfl,rfl⟩
end
end Go.Av
namespace Go.Av
variable [Dr]
omit [Dr]in
theorem fO(acc:List Nat):∀(es:List Edge)(x:Nat),(e9 acc es).testBit x=true↔∃e∈es,Region.binds .any e=true/\(e.on=x\/(acc.getD e.on 0).testBit x=true)
 |[],x=>by simp[e9]
 | e :: es,x=>by
  simp only[e9];cases hb:Region.binds .any e with
  | false=>
   simp only[Gd,fO acc es x,Gt];constructor
   ·rintro⟨e',he,h⟩;exact⟨e',.inr he,h⟩
   ·rintro⟨e',rfl|he,h⟩
    ·rw[hb]at h;exact absurd h.1 (by simp)
    ·exact⟨e',he,h⟩
  | true=>
   simp only[F9,Nat.testBit_or,G9,fO acc es x,Gt,Nat.testBit_two_pow,Ge];constructor
   ·rintro ((⟨e',he,h⟩|h)|h)
    ·exact⟨e',.inr he,h⟩
    ·exact⟨e,.inl rfl,hb,.inl h⟩
    ·exact⟨e,.inl rfl,hb,.inr h⟩
   ·rintro⟨e',rfl|he,h1,h2⟩
    ·rcases h2 with h2|h2
     ·exact .inl (.inr h2)
     ·exact .inr h2
    ·exact .inl (.inl ⟨e',he,h1,h2⟩)
omit [Dr]in
theorem mR:∀(os:List Oper)(acc:List Nat),∃r:List Nat,q7 os acc=acc++r/\r.length=os.length/\∀(k:Nat)(o:Oper),os[k]? = some o->r[k]? = some (e9 (acc++r.take k) o.after.toList)
 |[],acc=>⟨[],by simp[q7],rfl,by simp⟩
 | o:: os,acc=>by
  obtain⟨r,h1,h2,h3⟩:=mR os (acc++[e9 acc o.after.toList]);refine⟨e9 acc o.after.toList:: r,by simp[q7,h1],by simp[h2],fun k o' ho=>?_⟩;cases k with
  |zero=>simp at ho;subst ho;simp
  |succ k=>
   simp only[IL,List.take_succ_cons]at ho |-;rw[h3 k o' ho];simp
section
variable {ops:Array Oper}
def gm(ops:Array Oper):List Nat:=q7 ops.toList []
omit [Dr]in
theorem vH{j:Nat}{o:Oper}(ho:ops[j]? = some o):(gm ops).length=ops.size/\(gm ops).getD j 0=e9 ((gm ops).take j) o.after.toList:=by
 obtain⟨r,h1,h2,h3⟩:=mR ops.toList [];have h4:gm ops=r:=by unfold gm;rw[h1];simp
 rw[h4];refine⟨by simp[h2],?_⟩
 have:=h3 j o (by simpa using ho)
 rw[GG,this];simp
omit [Dr]in
theorem tP{listed:Nat->Prop}(hcl:∀(j:Nat)(o:Oper),ops[j]? = some o->listed j->∀e∈o.after.toList,Region.binds .any e=true->listed e.on):
  ∀(j:Nat)(o:Oper),ops[j]? = some o->(∀e∈o.after.toList,Region.binds .any e=true->listed e.on)->∀x,((gm ops).getD j 0).testBit x=true->listed x:=by
 intro j
 induction j using Nat.strongRecOn with
 | _ j ih=>
  intro o ho hl x hx;obtain⟨hlen,hget⟩:=vH ho;rw[hget,fO]at hx;obtain⟨e,he,hb,hx|hx⟩:=hx
  ·rw[<- hx];exact hl e he hb
  ·by_cases hj:e.on<j
   ·have hjs:j<ops.size:=(GF.1 ho).1;have hos:ops[e.on]? = some ops[e.on]:=GT (by omega);have h1:((gm ops).take j).getD e.on 0=(gm ops).getD e.on 0:=by
     rw[GG,GG,Gj,Gg hj]
    rw[h1]at hx;exact ih e.on hj _ hos (hcl e.on _ hos (hl e he hb)) x hx
   ·rw[GG,Gj,if_neg hj]at hx;simp at hx
def uS(cx:Cx)(ops:Array Oper)(i j:Nat):Prop:=((gm ops).getD i 0).testBit j=false/\(((gm ops).getD j 0).testBit i=true\/iZ cx ops i j=true)
omit [Dr]in
theorem kt{cx:Cx}:∀ {l:List Nat},fR cx ops (gm ops) l=true->l.Pairwise (uS cx ops)/\∀i∈l,((gm ops).getD i 0).testBit i=false
 |[],_=>⟨.nil,by simp⟩
 |i:: l,h=>by
  simp only[fR,F8,GW,Gk,G9]at h;obtain⟨⟨h1,h2⟩,h3⟩:=h;obtain⟨h4,h5⟩:=kt h3;refine⟨.cons (fun j hj=>h2 j hj) h4,fun k hk=>?_⟩;simp only[Gt]at hk;rcases hk with rfl|hk
  ·exact h1
  ·exact h5 k hk
omit [Dr]in
theorem gq:∀ {l:List Nat},distinct l=true->l.Nodup
 |[],_=>.nil
 |i:: l,h=>by
  simp only[distinct,F8,GW]at h;refine IR.2 ⟨fun hi=>?_,gq h.2⟩;rw[(eb _ _).2 hi]at h;exact Bool.noConfusion h.1
variable {P:Program} {cx:Cx} {c:Entry} {N base:Nat}
theorem pt(hT:TOK P cx.T)(hC:bD P cx.own cx.call)(hI:IsoPure cx)(hO:OpsOk N cx ops)(hS:Small ops)(hbit:∀i x,((gm ops).getD i 0).testBit x=true->x<ops.size)(hself:∀i,i<ops.size->((gm ops).getD i 0).testBit i=false){Q:Exit->Act->World->Prop}:∀(n:Nat)(rest:List Nat)(listed:Array Bool)(D:List Nat)(e:Env)(h:Hp)(a:Act)(w:World),rest.length=n->listed.size=ops.size->rest.Nodup->
  (∀i,i∈rest↔i<ops.size/\listed.getD i true=false)->(∀i∈rest,i ∉ D)->(∀i∈D,i<ops.size)->
  (∀(j:Nat)(o:Oper),ops[j]? = some o->listed.getD j false=true->∀e∈o.after.toList,Region.binds .any e=true->listed.getD e.on false=true)->rest.Pairwise (uS cx ops)->
  dj c N (UD base D) e h a w->aL cx base ops rest e h≠.fail->
  (∀e0 e' h' a' w',aL cx base ops rest e h= .ok e0 h'->EqE e0 e'->dj c N (UR base ops.size) e' h' a' w'->a'.defers=a.defers->Q .normal a' w')->
  (∀pv h' v w' a',aL cx base ops rest e h= .pan pv h'->ir c pv h' v w'->a'.defers=a.defers->Q (.panic [{ v,recovered:=false }]) a' w')->wpAny P .any ops Q n listed a w
 |0,rest,listed,D,e,h,a,w,hlen,hsz,hnd,hmem,hdis,hD,hcl,hpw,H,hr,hn,hp=>by
  have:rest=[]:=Gz hlen;subst this;refine⟨?_,hn e e h a w rfl (.refl e) (H.wider (zl hD)) rfl⟩;refine List.eq_nil_iff_forall_not_mem.2 fun i hi=>?_;obtain⟨h0,o,ho,_⟩:=mem_ready.1 hi
  have:=(hmem i).2 ⟨(GF.1 ho).1,h0⟩
  simp at this
 | n + 1,rest,listed,D,e,h,a,w,hlen,hsz,hnd,hmem,hdis,hD,hcl,hpw,H,hr,hn,hp=>by
  have hgd:∀i,i<ops.size->listed.getD i true=listed.getD i false:=fun i hi=>by
   rw[Gy,Gy,GT (by omega)];rfl
  refine⟨fun hemp=>?_,fun i hi=>?_⟩
  ·exfalso;cases rest with
   |nil=>simp at hlen
   | cons r0 tl=>
    have hr0:=(hmem r0).1 (by simp);have hor:ops[r0]? = some ops[r0]:=GT hr0.1;have:r0∈Region.ready .any ops listed:=by
     refine mem_ready.2 ⟨hr0.2,_,hor,fun ed hed hb=>?_⟩;have hbt:((gm ops).getD r0 0).testBit ed.on=true:=by
      rw[(vH hor).2,fO];exact⟨ed,by simpa using hed,hb,.inl rfl⟩
     have hlt:=hbit r0 ed.on hbt;cases hl:listed.getD ed.on false with
     |true=>rfl
     | false=>
      have hin:=(hmem ed.on).2 ⟨hlt,by rw[hgd _ hlt];exact hl⟩;simp only[Gt]at hin;rcases hin with hin|hin
      ·rw[hin]at hbt;rw[hself r0 hr0.1]at hbt;cases hbt
      ·have:=(HK.1 hpw).1 ed.on hin
       rw[this.1]at hbt;cases hbt
    rw[hemp]at this;simp at this
  ·obtain⟨h0,o,ho,hall⟩:=mem_ready.1 hi;have hlt:i<ops.size:=(GF.1 ho).1;have hin:=(hmem i).2 ⟨hlt,h0⟩;obtain⟨p,q,rfl⟩:=List.append_of_mem hin;have hnd':=hnd;rw[List.nodup_append]at hnd';have hni:i ∉ p++q:=by
    intro hm;rw[Gx]at hm;rcases hm with hm|hm
    ·exact hnd'.2.2 i hm i (by simp) rfl
    ·exact (IR.1 hnd'.2.1).1 hm
   have hclo:=tP (ops:=ops) (listed:=fun j=>listed.getD j false=true) (fun j o ho hj ed hed hb=>hcl j o ho hj ed hed hb) i o ho (fun ed hed hb=>hall ed (by simpa using hed) hb);have hfront:∀x∈p,iZ cx ops x i=true/\x≠i:=by
    intro x hx;have hpr:=(List.pairwise_append.1 hpw).2.2 x hx i (by simp);refine⟨?_,fun hxi=>hni (by rw[<- hxi];simp[hx])⟩;rcases hpr.2 with h1|h1
    ·have hxl:=hclo x h1;have hxr:=(hmem x).1 (by simp[hx]);rw[hgd x hxr.1]at hxr;rw[hxr.2]at hxl;cases hxl
    ·exact h1
   have hRE:=zR (base:=base) hI hS q p hfront e h;have hr':aL cx base ops (i:: (p++q)) e h≠.fail:=by
    intro hf;rw[hf]at hRE;cases hx:aL cx base ops (p++i:: q) e h with
    |fail=>exact hr hx
    |ok e0 h0=>rw[hx]at hRE;obtain⟨_,h1,_⟩:=hRE;cases h1
    |pan v h0=>rw[hx]at hRE;cases hRE
   simp only[aL,af]at hr';have hstep:∀ {r:R Env},aL cx base ops (i:: (p++q)) e h=r->aL cx base ops (i:: (p++q)) e h=r:=fun h=>h;simp only[aL,af]at hRE;refine md hT hC hO (hdis i hin) H (fun hf=>by rw[hf]at hr';exact hr' rfl) (fun e1 h1 a1 w1 hst hs hdf=>?_) (fun pv h1 v w1 hst hps=>?_)
   ·rw [hst]at hr' hRE;simp only at hr' hRE;refine pt hT hC hI hO hS hbit hself n (p++q) (listed.setIfInBounds i true) (i:: D) e1 h1 a1 w1 ?_ (by simp[hsz]) ?_ (fun k=>?_) (fun k hk=>?_) (fun k hk=>?_) (fun k o' ho' hk ed hed hb=>?_) ?_ hs hr' (fun e0 e' h' a' w' hok heq hsat hdf'=>?_) (fun pv h' v w' a' hok hps hdf'=>?_)
    ·simp only[Gf,Gu]at hlen |-;omega
    ·exact hnd.sublist (List.Sublist.append (List.Sublist.refl p) (List.sublist_cons_self i q))
    ·have hset:k≠i->(listed.setIfInBounds i true).getD k true=listed.getD k true:=fun hk=>by
      rw[Gy,Gy,HH (Ne.symm hk)]
     constructor
     ·intro hk;have hki:k≠i:=fun h=>hni (h▸hk);rw[hset hki];exact (hmem k).1 (by
       simp only[Gx,Gt]at hk |-;rcases hk with hk|hk
       ·exact .inl hk
       ·exact .inr (.inr hk))
     ·rintro⟨h1,h2⟩;have hki:k≠i:=by
       rintro rfl;rw[Gy,Array.getElem?_setIfInBounds_self]at h2;rw[Gg (by omega)]at h2;simp at h2
      rw[hset hki]at h2
      have:=(hmem k).2 ⟨h1,h2⟩
      simp only[Gx,Gt]at this |-;rcases this with h|h|h
      ·exact .inl h
      ·exact absurd h hki
      ·exact .inr h
    ·simp only[Gt,not_or];refine⟨fun hki=>hni (hki▸hk),hdis k ?_⟩;simp only[Gx,Gt]at hk |-;rcases hk with hk|hk
     ·exact .inl hk
     ·exact .inr (.inr hk)
    ·simp only[Gt]at hk;rcases hk with rfl|hk
     ·exact hlt
     ·exact hD k hk
    ·have hmono:∀x,listed.getD x false=true->(listed.setIfInBounds i true).getD x false=true:=fun x hx=>getD_set_true hx;by_cases hki:k=i
     ·subst hki;rw[ho]at ho';cases ho';exact hmono _ (hall ed (by simpa using hed) hb)
     ·refine hmono _ (hcl k o' ho' ?_ ed hed hb);rw[Gy,HH (Ne.symm hki),<- Gy]at hk;exact hk
    ·exact hpw.sublist (List.Sublist.append (List.Sublist.refl p) (List.sublist_cons_self i q))
    ·rw[hok]at hRE;cases hx:aL cx base ops (p++i:: q) e h with
     |fail=>exact absurd hx hr
     |ok ex hx'=>
      rw[hx]at hRE;obtain⟨e0',h2,h3⟩:=hRE;cases h2;exact hn ex e' _ a' w' hx (h3.trans heq) hsat (hdf'.trans hdf)
     |pan v h0=>rw[hx]at hRE;cases hRE
    ·rw[hok]at hRE;cases hx:aL cx base ops (p++i:: q) e h with
     |fail=>exact absurd hx hr
     |ok ex hx'=>rw[hx]at hRE;obtain⟨_,h1,_⟩:=hRE;cases h1
     |pan v0 h0=>
      rw[hx]at hRE;cases hRE;exact hp _ _ v w' a' hx hps (hdf'.trans hdf)
   ·rw[hst]at hRE;cases hx:aL cx base ops (p++i:: q) e h with
    |fail=>exact absurd hx hr
    |ok ex hx'=>rw[hx]at hRE;obtain⟨_,h1,_⟩:=hRE;cases h1
    |pan v0 h0=>
     rw[hx]at hRE;cases hRE;exact hp _ _ v w1 a hx hps rfl
end
end Go.Av
namespace Go.Av
variable [Dr]
structure IsoCall (cx:Cx):Prop where
 iso:∀f args,cx.iso f=true->∃x:Option (Bool×AV),∀h,cx.call f args h=(match x with|none=>.fail|some (true,v)=>.ok v h|some (false,v)=>.pan v h)
 nw:∀f args,cx.nw f=true->qV (cx.call f args)
omit [Dr]in
theorem IsoCall.draw{cx:Cx}(h:IsoCall cx):IsoPure (df cx):=by
 refine⟨?_,fun f args hf=>?_⟩
 case refine_2=>
  have hn:=h.nw f args hf;show qV (bif cx.iso f then dy (cx.call f args)else cx.call f args);cases cx.iso f with
  |false=>exact hn
  |true=>
   intro hp v h' hh;simp only[F9,dy]at hh;cases hq:cx.call f args hp with
   |ok a b=>rw[hq]at hh;cases hh;exact hn _ _ _ hq
   |pan a b=>rw[hq]at hh;cases hh
   |fail=>rw[hq]at hh;cases hh
 intro f args hf;have hf':cx.iso f=true:=hf;obtain⟨x,hx⟩:=h.iso f args hf';refine⟨match x with|some (true,v)=>some v|_=>none,?_⟩;show (bif cx.iso f then dy (cx.call f args)else cx.call f args)=_;rw[hf'];funext hp;simp only[F9,dy,hx];rcases x with _|⟨b,v⟩
 ·rfl
 ·cases b<;>rfl
theorem bD.draw{P:Program}{cx:Cx}(h:bD P cx.own cx.call):bD P (df cx).own (df cx).call:=by
 intro f args hp S β w vs hr hg hw hh hv;have hcall:(df cx).call f args hp=(bif cx.iso f then dy (cx.call f args) hp else cx.call f args hp):=by
  show (bif cx.iso f then dy (cx.call f args)else cx.call f args) hp=_;cases cx.iso f<;>rfl
 rw[hcall]at hr |-
 have key:∀r,r=cx.call f args hp->r≠.fail->Calls P f vs.toArray w (bS ((df cx).own f) S β hp w r)/\(P.funcs[f]?).any (fun fn=>fn.body.isSome&&!(fn.name== "runtime.NumGoroutine"))=true:=by
  intro r hr1 hr2;subst hr1;exact h f args hp S β w vs hr2 hg hw hh hv
 cases hi:cx.iso f with
 |false=>rw[hi]at hr;exact key _ rfl hr
 |true=>
  rw[hi]at hr;simp only[F9,dy]at hr |-;cases hx:cx.call f args hp with
  |ok v hq=>rw[hx]at hr;exact key _ hx.symm (by simp)
  |pan v hq=>rw[hx]at hr;exact absurd rfl hr
  |fail=>rw[hx]at hr;exact absurd rfl hr
def f5(c:Entry)(N:Nat)(e:Env)(h:Hp)(a:Act)(w:World):Prop:=dj c N (fun g=>g<e.nx*1000) e h a w
theorem dj.rel{c:Entry}{N:Nat}{U:Nat->Prop}{e2 e:Env}{h:Hp}{a:Act}{w:World}{ops:Array Oper}(H:dj c N U e h a w)(R:Rel ops [] e2 e):dj c N U e2 h a w:=by
 obtain⟨S,β,γ,lam,ω,F⟩:=H;refine⟨S,β,γ,lam,ω,F.weak (fun t=>?_) (fun t g hg=>?_) (fun g z hz=>by rw[R.al]at hz;exact hz) (fun B n hB=>by rw[R.lb]at hB;exact hB)⟩
 ·rcases R.get t with h|⟨h1,h2,_⟩
  ·exact .inl (by rw[h])
  ·exact .inr ⟨by rw[h1];rfl,h2⟩
 ·rcases R.get t with h|⟨h1,_⟩
  ·rw[h]at hg;exact hg
  ·rw[h1]at hg;cases hg
theorem dj.eqE{c:Entry}{N:Nat}{U:Nat->Prop}{e2 e:Env}{h:Hp}{a:Act}{w:World}(H:dj c N U e h a w)(R:EqE e e2):dj c N U e2 h a w:=by
 obtain⟨S,β,γ,lam,ω,F⟩:=H;exact⟨S,β,γ,lam,ω,F.weak (fun t=>.inl (by rw[R.get])) (fun t g hg=>by rw[R.get]at hg;exact hg) (fun g z hz=>by rw[R.al]at hz;exact hz) (fun B n hB=>by rw[R.lb]at hB;exact hB)⟩
theorem dj.nx{c:Entry}{N:Nat}{U:Nat->Prop}{e:Env}{h:Hp}{a:Act}{w:World}(n:Nat)(H:dj c N U e h a w):dj c N U { e with nx:=n } h a w:=by
 obtain⟨S,β,γ,lam,ω,F⟩:=H;exact⟨S,β,γ,lam,ω,F.weak (fun t=>.inl rfl) (fun t g hg=>hg) (fun g z hz=>hz) (fun B n hB=>hB)⟩
section
variable {P:Program} {cx:Cx} {c:Entry} {e:Env} {h:Hp} {a:Act} {w:World} {ops:Array Oper} {id:Nat}
omit [Dr]in
theorem mB{n:Nat}(hn:n<=1000)(hd:fg n ops=true)(hk:∀p,ul (bA cx.ann.kinds p .L)=true->p<n):OpsOk n cx ops/\Small ops:=by
 unfold fg at hd;rw[Array.all_eq_true_iff_forall_mem]at hd;have h1:∀(i:Nat)(o:Oper),ops[i]? = some o->(∀t,o.dst=some t->t<n)/\∀t∈eP o,t<1000:=by
  intro i o ho
  have:=hd o (Array.mem_of_getElem? ho)
  simp only[F8,Gk,Ge]at this;refine⟨fun t ht=>?_,this.2⟩;have h2:=this.1;rw[ht]at h2;simpa using h2
 refine⟨⟨fun i o ho=>(h1 i o ho).1,fun i o ho x hx t hxt=>(h1 i o ho).2 t ?_,hk⟩,⟨fun i o ho t ht=>GD ((h1 i o ho).1 t ht) hn,fun i o ho=>(h1 i o ho).2⟩⟩;subst hxt;exact H4.2 ⟨_,hx,rfl⟩
theorem uE{ρ:Type}(hT:TOK P cx.T)(hC:bD P cx.own cx.call)(hI:IsoCall cx)(hk:∀p,ul (bA cx.ann.kinds p .L)=true->p<cx.nt){draw:Bool}{k:Env->M ρ}(H:f5 c cx.nt e h a w)(hr:j9 cx id ops draw e k h≠.fail){Q:Exit->Act->World->Prop}(hn:∀e' h' a' w',j9 cx id ops draw e k h=k e' h'->f5 c cx.nt e' h' a' w'->a'.defers=a.defers->Q .normal a' w')(hp:∀pv h' v w' a',j9 cx id ops draw e k h= .pan pv h'->ir c pv h' v w'->a'.defers=a.defers->Q (.panic [{ v,recovered:=false }]) a' w'):
  (Code.region id ops draw).wp P Q a w:=by
 have hN:cx.nt<=1000:=by obtain⟨S,β,γ,lam,ω,F⟩:=H;exact F.tsz.2
 have H0:dj c cx.nt (UD e.nx []) e h a w:=H.wider fun g hg=>.inl hg;unfold j9 at hr hn hp;cases hds:fg cx.nt ops with
 |false=>rw[hds]at hr;exact absurd rfl hr
 | true=>
  obtain⟨hO,hS⟩:=mB (cx:=cx) hN hds hk;rw[hds]at hr hn hp;simp only[F9]at hr hn hp;cases draw with
  | false=>
   simp only[Gd]at hr hn hp;obtain⟨hfl,hgs⟩:=e8 ops (List.range ops.size);refine wp_region (nI hT hC hO (List.range ops.size) [] e h a w List.nodup_range (by simp) H0 ?_ ?_ ?_)
   all_goals
    have hseq:=fh (cx:=cx) (base:=e.nx) hS (ck ops (List.range ops.size)) e e _ h hgs (.refl ops _ e) hr;rw[hfl]at hseq
   ·rcases hseq with⟨_,_,_,_,h2,_⟩|⟨_,_,_,h2⟩<;>rw[h2]<;>simp
   ·intro e' h' a' w' hok hsat hdf;rcases hseq with⟨e2',e'',h'',h1,h2,hR⟩|⟨_,_,_,h2⟩
    ·rw[h2]at hok;cases hok;refine hn _ _ a' w' h1 (dj.nx _ ((hsat.wider (zl ?_)).rel hR)) hdf;intro i hi;simpa using hi
    ·rw[h2]at hok;cases hok
   ·intro pv h' v w' a' hok hps hdf;rcases hseq with⟨e2',e'',h'',h1,h2,hR⟩|⟨_,_,h1,h2⟩
    ·rw[h2]at hok;cases hok
    ·rw[h2]at hok;cases hok;exact hp _ _ v w' a' h1 hps hdf
  | true=>
   simp only[F9]at hr hn hp;generalize nB cx id ops.size=ord at hr hn hp;cases hdo:iy cx ops ord with
   |false=>rw[hdo]at hr;exact absurd rfl hr
   | true=>
    rw[hdo]at hr hn hp;simp only[F9]at hr hn hp;simp only[iy,wR,F8,Gk,Ge]at hdo;obtain⟨⟨⟨⟨⟨hlen,hmem⟩,hdist⟩,hlt⟩,hbits⟩,hpairs⟩:=hdo;have hlen':ord.length=ops.size:=Gh hlen;obtain⟨hpw,hself⟩:=kt (cx:=cx) (ops:=ops) hpairs;have hpw':ord.Pairwise (uS (df cx) ops):=hpw;have hO':OpsOk cx.nt (df cx) ops:=⟨hO.dst,hO.src,hO.kin⟩;obtain⟨hfl,hgs⟩:=e8 ops ord;have hseq:=fh (cx:=df cx) (base:=e.nx) hS (ck ops ord) e e _ h hgs (.refl ops _ e) hr;rw[hfl]at hseq;refine wp_region_draw fun t=>?_;have hsch:Region.schedule (P.follows .mixedOrders) ops t=Region.linearise .any ops t:=by
     simp only[Region.schedule,hT.mix,Bool.true_or,GP]
    rw[hsch];have hmem':∀i,i∈ord↔i<ops.size:=fun i=>⟨fun hi=>hlt i hi,fun hi=>(eb _ _).1 (hmem i (by simpa using hi))⟩;refine wpAny_sound ops.size t _ a _ (pt (cx:=df cx) (c:=c) (N:=cx.nt) (base:=e.nx) hT hC.draw hI.draw hO' hS ?_ ?_ ops.size ord (Array.replicate ops.size false) [] e h a w.drew hlen' (by simp) (gq hdist) ?_ (by simp) (by simp) ?_ hpw' ?_ ?_ ?_ ?_)
    ·intro i x hx;rcases Gp x ops.size with h'|h'
     ·exact h'
     ·have hm:(gm ops).getD i 0<2 ^ ops.size:=by
       rw[GG];cases hi:(gm ops)[i]? with
       |none=>simp;exact Nat.pow_pos (by omega)
       |some m=>exact hbits m (He hi)
      rw[Nat.testBit_lt_two_pow (GD hm (Nat.pow_le_pow_right (by omega) h'))]at hx;cases hx
    ·exact fun i hi=>hself i ((hmem' i).2 hi)
    ·intro i;rw[hmem'];constructor
     ·intro hi;refine⟨hi,?_⟩;rw[Gy,II,Gg hi];rfl
     ·exact fun hi=>hi.1
    ·intro j o ho hj;exfalso;rw[Gy,II]at hj;split at hj<;>simp at hj
    ·obtain⟨S,β,γ,lam,ω,F⟩:=H0;exact⟨S,β,γ,lam,ω,F.drew⟩
    ·rcases hseq with⟨_,_,_,_,h2,_⟩|⟨_,_,_,h2⟩<;>rw[h2]<;>simp
    ·intro e0 e' h' a' w' hok heq hsat hdf;rcases hseq with⟨e2',e'',h'',h1,h2,hR⟩|⟨_,_,_,h2⟩
     ·rw[h2]at hok;cases hok;exact hn _ _ a' w' h1 (dj.nx _ ((hsat.eqE heq.symm).rel hR)) hdf
     ·rw[h2]at hok;cases hok
    ·intro pv h' v w' a' hok hps hdf;rcases hseq with⟨e2',e'',h'',h1,h2,hR⟩|⟨_,_,h1,h2⟩
     ·rw[h2]at hok;cases hok
     ·rw[h2]at hok;cases hok;exact hp _ _ v w' a' h1 hps hdf
end
end Go.Av
namespace Go.Av
variable [Dr]
omit [Dr]in
theorem fQ{e:Env}:∀(l:List (Nat×Option Nat))(used:List Nat)(vs:List AV),ec e l used=some vs->vs.length=l.length/\
  (∀(i:Nat)(t:Nat)(z:Option Nat),l[i]? = some (t,z)->∃a,vs[i]? = some a/\(e.get t).v= .val a/\∀sz,z=some sz->∃g z0,(e.get t).g=some g/\aA e.al g=some z0/\(z0=none\/z0=some sz)/\g ∉ used)/\
  ∀(i j:Nat)(t t' sz sz':Nat),i<j->l[i]? = some (t,some sz)->l[j]? = some (t',some sz')->(e.get t).g≠(e.get t').g
 |[],used,vs,h=>by
  simp only[ec,F7]at h;subst h;exact⟨rfl,by simp,by simp⟩
 | (t,none):: r,used,vs,h=>by
  simp only[ec]at h;split at h
  ·rename_i a ha;split at h
   ·rename_i vs' hvs;simp only[F7]at h;subst h;obtain⟨h1,h2,h3⟩:=fQ r used vs' hvs;refine⟨by simp[h1],fun i t' z hi=>?_,fun i j t1 t2 sz1 sz2 hij hi hj=>?_⟩
    ·cases i with
     |zero=>
      simp only[Gw,F7,Ha]at hi;obtain⟨rfl,rfl⟩:=hi;exact⟨a,rfl,ha,fun sz hsz=>by cases hsz⟩
     |succ i=>simpa using h2 i t' z (by simpa using hi)
    ·cases i with
     |zero=>simp at hi
     |succ i=>
      cases j with
      |zero=>omega
      |succ j=>exact h3 i j t1 t2 sz1 sz2 (by omega) (by simpa using hi) (by simpa using hj)
   ·cases h
  ·cases h
 | (t, some sz):: r,used,vs,h=>by
  simp only[ec]at h;split at h
  ·rename_i a g ha hg;split at h
   ·cases h
   ·rename_i z0 hz0;have hcond:oN z0 (some sz)=true/\dp used g=false/\(match ec e r (g:: used)with|some vs=>some (a:: vs)|none=>none)=some vs:=by
     cases hm:dp used g with
     | true=>
      rw[hm]at h;cases z0 with
      |none=>cases h
      |some n=>
       simp only at h;cases hb:Nat.beq n sz<;>rw[hb]at h<;>cases h
     | false=>
      rw[hm]at h;cases z0 with
      |none=>exact⟨rfl,rfl,h⟩
      |some n=>
       simp only at h;cases hb:Nat.beq n sz with
       |true=>rw[hb]at h;exact⟨hb,rfl,h⟩
       |false=>rw[hb]at h;cases h
    obtain⟨hc1,hc2,h⟩:=hcond;have hc:=And.intro hc1 hc2
    ·split at h
     ·rename_i vs' hvs;simp only[F7]at h;subst h;have hgu:g ∉ used:=fun hm=>by
       rw[(eb _ _).2 hm]at hc;exact Bool.noConfusion hc.2
      have hz:z0=none\/z0=some sz:=by
       cases z0 with
       |none=>exact .inl rfl
       |some n=>exact .inr (by rw[Gh hc.1])
      obtain⟨h1,h2,h3⟩:=fQ r (g:: used) vs' hvs;refine⟨by simp[h1],fun i t' z hi=>?_,fun i j t1 t2 sz1 sz2 hij hi hj=>?_⟩
      ·cases i with
       |zero=>
        simp only[Gw,F7,Ha]at hi;obtain⟨rfl,rfl⟩:=hi;exact⟨a,rfl,ha,fun sz' hsz=>by cases hsz;exact⟨g,z0,hg,hz0,hz,hgu⟩⟩
       |succ i=>
        obtain⟨a',k1,k2,k3⟩:=h2 i t' z (by simpa using hi);refine⟨a',by simpa using k1,k2,fun sz' hsz=>?_⟩;obtain⟨g',z',m1,m2,m3,m4⟩:=k3 sz' hsz;exact⟨g',z',m1,m2,m3,fun hm=>m4 (by simp[hm])⟩
      ·cases i with
       | zero=>
        cases j with
        |zero=>omega
        |succ j=>
         simp only[Gw,F7,Ha]at hi;obtain⟨rfl,_⟩:=hi;obtain⟨a',k1,k2,k3⟩:=h2 j t2 (some sz2) (by simpa using hj);obtain⟨g',z',m1,m2,m3,m4⟩:=k3 sz2 rfl;rw[hg,m1];intro hh;simp only[F7]at hh;exact m4 (by simp[hh])
       |succ i=>
        cases j with
        |zero=>omega
        |succ j=>exact h3 i j t1 t2 sz1 sz2 (by omega) (by simpa using hi) (by simpa using hj)
     ·cases h
  ·cases h
omit [Dr]in
theorem f4(vs:List AV)(r:List (Nat×Ent))(t:Nat):∀(l:List (Nat×Option Nat))(k:Nat),
  (∃(i:Nat)(z:Option Nat),l[i]? = some (t,z)/\bi (bG vs k l++r) t=⟨.val (ah vs (k+i)),z.map fun _=>k+i⟩)\/
  ((∀(i:Nat)(z:Option Nat),l[i]? ≠some (t,z))/\bi (bG vs k l++r) t=bi r t)
 |[],k=>.inr ⟨by simp,rfl⟩
 | (s,z):: l,k=>by
  have hh:bG vs k ((s,z):: l)=(s,⟨.val (ah vs k),z.map fun _=>k⟩):: bG vs (k+1) l:=by cases z<;>rfl
  rw[hh,GJ,bw];by_cases hs:s=t
  ·subst hs;rw[Gg rfl];exact .inl ⟨0,z,rfl,rfl⟩
  ·rw[if_neg hs];rcases f4 vs r t l (k+1)with⟨i,z',h1,h2⟩|⟨h1,h2⟩
   ·refine .inl ⟨i+1,z',by simpa using h1,?_⟩;rw[h2,show k+1+i=k+(i+1) by omega]
   ·refine .inr ⟨fun i z' hi=>?_,h2⟩;cases i with
    |zero=>simp at hi;exact hs hi.1
    |succ i=>exact h1 i z' (by simpa using hi)
omit [Dr]in
theorem dY:∀(l:List (Nat×Option Nat))(k g:Nat)(y:Option Nat),aA (fA k l) g=some y->∃(i t sz:Nat),l[i]? = some (t,some sz)/\g=k+i/\y=some sz
 |[],k,g,y,h=>by simp[fA,aA]at h
 |(s,none):: l,k,g,y,h=>by
  obtain⟨i,t,sz,h1,h2,h3⟩:=dY l (k+1) g y h;exact⟨i+1,t,sz,by simpa using h1,by omega,h3⟩
 | (s,some n):: l,k,g,y,h=>by
  simp only[fA,bk]at h;split at h
  ·rename_i hk;simp only[F7]at h;exact⟨0,s,n,rfl,by omega,h.symm⟩
  ·obtain⟨i,t,sz,h1,h2,h3⟩:=dY l (k+1) g y h;exact⟨i+1,t,sz,by simpa using h1,by omega,h3⟩
omit [Dr]in
theorem jH(t:Nat):∀(l:List (Nat×Nat×Nat)),(∃B off,(t,B,off)∈l/\bi (l.map fun x=>(x.1,(⟨.loc x.2.1 x.2.2,none⟩:Ent))) t=⟨.loc B off,none⟩)\/bi (l.map fun x=>(x.1,(⟨.loc x.2.1 x.2.2,none⟩:Ent))) t=Ent.none
 |[]=>.inr rfl
 | (s,B,off):: l=>by
  rw[GY,bw];by_cases hs:s=t
  ·subst hs;rw[Gg rfl];exact .inl ⟨B,off,by simp,rfl⟩
  ·rw[if_neg hs];rcases jH t l with⟨B',off',h1,h2⟩|h
   ·exact .inl ⟨B',off',by simp[h1],h2⟩
   ·exact .inr h
omit [Dr]in
theorem lN{e:Env}:∀ {l:List (Nat×Nat×Nat)},lM e l=true->∀t B off,(t,B,off)∈l->(e.get t).v= .loc B off
 |[],_,t,B,off,h=>by simp at h
 | (s,B0,off0):: l,h,t,B,off,hm=>by
  simp only[lM,F8]at h;simp only[Gt,Ha]at hm;rcases hm with⟨rfl,rfl,rfl⟩|hm
  ·have h1:=h.1;split at h1
   ·rename_i B' off' hv;simp only[F8]at h1;rw[hv,Gh h1.1,Gh h1.2]
   ·cases h1
  ·exact lN h.2 t B off hm
omit [Dr]in
theorem nn{e:Env}:∀ {l:List (Nat×Nat)},qf e l=true->∀B n,aI l B=some n->aI e.lb B=some n
 |[],_,B,n,h=>by simp[aI]at h
 | (B0,n0):: l,h,B,n,hm=>by
  simp only[qf,F8]at h;rw[cm]at hm;split at hm
  ·rename_i hB;subst hB;simp only[F7]at hm;subst hm;have h1:=h.1;split at h1
   ·rename_i m hv;rw[hv,Gh h1]
   ·cases h1
  ·exact nn h.2 B n hm
section
variable {c:Entry} {N:Nat} {e:Env} {h:Hp} {a:Act} {w:World}
open Classical in
theorem oQ{ja:JA}{vs:List AV}(H:f5 c N e h a w)(hp:pack ja e=some vs):f5 c N (unpack ja vs) h a w:=by
 obtain⟨S,β,γ,lam,ω,F⟩:=H;unfold pack at hp;cases hlo:(lM e ja.locs&&qf e ja.lbs)with
 |false=>rw[hlo]at hp;cases hp
 | true=>
  rw[hlo]at hp;simp only[F9]at hp;simp only[F8]at hlo;obtain⟨hlen,hval,hdis⟩:=fQ ja.vals [] vs hp
  -- the groups carried
  let gOf:Nat->Option Nat:=fun i=>match ja.vals[i]? with|some (t,some _)=>(e.get t).g|_=>none
  have hg1:∀i t sz,ja.vals[i]? = some (t,some sz)->∃g z0,gOf i=some g/\(e.get t).g=some g/\aA e.al g=some z0/\(z0=none\/z0=some sz):=by
   intro i t sz hi;obtain⟨a',_,_,h3⟩:=hval i t (some sz) hi;obtain⟨g,z0,k1,k2,k3,_⟩:=h3 sz rfl;refine⟨g,z0,?_,k1,k2,k3⟩;show (match ja.vals[i]? with|some (t,some _)=>(e.get t).g|_=>none)=some g;rw[hi];exact k1
  have hg2:∀i j g,gOf i=some g->gOf j=some g->i=j:=by
   have hex:∀i g,gOf i=some g->∃t sz,ja.vals[i]? = some (t,some sz)/\(e.get t).g=some g:=by
    intro i g hi;have hi':(match ja.vals[i]? with|some (t,some _)=>(e.get t).g|_=>none)=some g:=hi;split at hi'
    ·rename_i t sz ht;exact⟨t,sz,ht,hi'⟩
    ·cases hi'
   intro i j g hi hj;obtain⟨t,sz,k1,k2⟩:=hex i g hi;obtain⟨t',sz',m1,m2⟩:=hex j g hj;rcases Iz i j with hlt|heq|hlt
   ·exact absurd (k2.trans m2.symm) (hdis i j t t' sz sz' hlt k1 m1)
   ·exact heq
   ·exact absurd (m2.trans k2.symm) (hdis j i t' t sz' sz hlt m1 k1)
  let γ':Nat->Value:=fun i=>match gOf i with|some g=>γ g|none=>undef
  let ω':Nat->Owner:=fun b=>match ω b with
   |.grp g=>if hx:∃i,gOf i=some g then .grp (Classical.choose hx)else .no
   |o=>o
  have hωg:∀b g i,ω b= .grp g->gOf i=some g->ω' b= .grp i:=by
   intro b g i hb hi;show (match ω b with|.grp g=>if hx:∃i,gOf i=some g then Owner.grp (Classical.choose hx)else .no|o=>o)= .grp i;rw[hb];simp only;have hx:∃i,gOf i=some g:=⟨i,hi⟩;rw[dif_pos hx,hg2 _ _ g (Ih hx) hi]
  have hωo:∀b,(∀g,ω b≠.grp g)->ω' b=ω b:=by
   intro b hb;show (match ω b with|.grp g=>if hx:∃i,gOf i=some g then Owner.grp (Classical.choose hx)else .no|o=>o)=ω b;cases ho:ω b with
   |grp g=>exact absurd ho (hb g)
   |_=>rfl
  have hωn:∀b,ω' b≠.no->ω b≠.no:=by
   intro b hb ho;refine hb ?_;rw[hωo b (fun g hg=>by rw[ho]at hg;cases hg),ho]
  have hωx:∀b g,ω' b= .grp g->∃g',ω b= .grp g':=by
   intro b g hg;cases ho:ω b with
   |grp g'=>exact⟨g',rfl⟩
   |_=>rw[hωo b (fun g' h'=>by rw[ho]at h';cases h'),ho]at hg;cases hg
  -- the slots
  have hget:∀t,(∃(i:Nat)(z:Option Nat)(a':AV),ja.vals[i]? = some (t,z)/\(e.get t).v= .val a'/\(unpack ja vs).get t=⟨.val a',z.map fun _=>i⟩)\/(∃B off,(e.get t).v= .loc B off/\(unpack ja vs).get t=⟨.loc B off,none⟩)\/(unpack ja vs).get t=Ent.none:=by
   intro t;have hu:(unpack ja vs).get t=bi (bG vs 0 ja.vals++ja.locs.map fun x=>(x.1,(⟨.loc x.2.1 x.2.2,none⟩:Ent))) t:=rfl;rcases f4 vs (ja.locs.map fun x=>(x.1,(⟨.loc x.2.1 x.2.2,none⟩:Ent))) t ja.vals 0 with⟨i,z,h1,h2⟩|⟨h1,h2⟩
   ·obtain⟨a',k1,k2,_⟩:=hval i t z h1;refine .inl ⟨i,z,a',h1,k2,?_⟩;rw[hu,h2,GE];have:ah vs i=a':=by simp[ah,k1]
    rw[this]
   ·rcases jH t ja.locs with⟨B,off,k1,k2⟩|k
    ·exact .inr (.inl ⟨B,off,lN hlo.1 t B off k1,by rw[hu,h2,k2]⟩)
    ·exact .inr (.inr (by rw[hu,h2,k]))
  have hgg:∀t g,((unpack ja vs).get t).g=some g->∃sz,ja.vals[g]? = some (t,some sz):=by
   intro t g hg;rcases hget t with⟨i,z,a',h1,_,h3⟩|⟨_,_,_,h3⟩|h3
   ·rw[h3]at hg;cases z with
    |none=>simp at hg
    |some sz=>simp at hg;subst hg;exact⟨sz,h1⟩
   ·rw[h3]at hg;cases hg
   ·rw[h3]at hg;cases hg
  have hγ:∀t g,((unpack ja vs).get t).g=some g->∃g0 z0,(e.get t).g=some g0/\aA e.al g0=some z0/\γ' g=γ g0:=by
   intro t g hg;obtain⟨sz,h1⟩:=hgg t g hg;obtain⟨g0,z0,k1,k2,k3,_⟩:=hg1 g t sz h1;refine⟨g0,z0,k2,k3,?_⟩;show (match gOf g with|some g=>γ g|none=>undef)=γ g0;rw[k1]
  refine⟨S,β,γ',lam,ω',⟨F.wf,F.gro,F.keep,F.le,F.ext,F.hlen,fun l cs hl hcs=>?_,F.tsz,fun t ht=>?_,fun t g z ht hg hz=>?_,fun B n hB=>?_,fun g z hz=>?_,fun b hb=>⟨(F.mine b (hωn b hb)).1.imp (fun hE=>⟨hE.1,fun g hg=>by obtain⟨g',h'⟩:=hωx b g hg;exact hE.2 g' h'⟩) id,(F.mine b (hωn b hb)).2⟩,fun t g hg=>?_,fun g z hz=>?_⟩⟩
  ·rcases F.heap l cs hl hcs with⟨b,x,h1,h2,h3,h4⟩|⟨b,h1,h3,h4⟩
   ·exact .inl ⟨b,x,h1,h2,by rw[hωo b (fun g hg=>by rw[h3]at hg;cases hg)];exact h3,h4⟩
   ·exact .inr ⟨b,h1,by rw[hωo b (fun g hg=>by rw[h3]at hg;cases hg)];exact h3,h4⟩
  ·have hs:=F.slots t ht;rcases hget t with⟨i,z,a',_,h2,h3⟩|⟨B,off,h2,h3⟩|h3
   ·rw[h3];rw[h2]at hs;exact hs
   ·rw[h3];rw[h2]at hs;exact hs
   ·rw[h3];simp[Ent.none,dw,VR]
  ·obtain⟨g0,z0,k1,k2,k3⟩:=hγ t g hg;rw[k3];exact F.grps t g0 z0 ht k1 k2
  ·obtain⟨k1,k2,k3,b,x,k4,k5,k6,k7,k8⟩:=F.lblk B n (nn hlo.2 B n hB);refine⟨k1,k2,k3,b,x,k4,k5,by rw[hωo b (fun g hg=>by rw[k6]at hg;cases hg)];exact k6,k7,fun i hi=>?_⟩;obtain⟨v,a',m1,m2,m3,m4⟩:=k8 i hi;have hgr:∀g z,((unpack ja vs).get (B+i)).g=some g->aA (unpack ja vs).al g=some z->v=γ' g:=by
    intro g z hg _;obtain⟨g0,z0,p1,p2,p3⟩:=hγ _ g hg;rw[p3];exact m4 g0 z0 p1 p2
   rcases hget (B+i)with⟨j,z,a2,_,h2,h3⟩|⟨B',off,h2,h3⟩|h3
   ·refine⟨v,a2,m1,by rw[h3],?_,hgr⟩;rw[m2]at h2;cases h2;exact m3
   ·rw[m2]at h2;cases h2
   ·exact⟨v,.any,m1,by rw[h3];rfl,by simp[VR],hgr⟩
  ·obtain⟨i,t,sz,h1,h2,h3⟩:=dY ja.vals 0 g z hz;rw[GE]at h2;subst h2;obtain⟨g0,z0,k1,k2,k3,k4⟩:=hg1 g t sz h1;have hγ':γ' g=γ g0:=by
    show (match gOf g with|some g=>γ g|none=>undef)=γ g0;rw[k1]
   rw[hγ'];obtain⟨ad,len,cap,m1,m2,m3,m4⟩:=F.free g0 z0 k3;refine⟨ad,len,cap,m1,m2,m3,m4.imp id ?_⟩;rintro⟨sz',b,off,x,p1,p2,p3,p4,p5,p6⟩;have:sz'=sz:=by
    rcases k4 with k4|k4<;>rw[k4]at p1<;>cases p1;rfl
   subst this;exact⟨sz',b,off,x,h3,p2,p3,p4,hωg b g0 g p5 k1,p6⟩
  ·obtain⟨sz,h1⟩:=hgg t g hg;have:g<ja.vals.length:=by
    rcases Gp g ja.vals.length with h|h
    ·exact h
    ·rw[Gi h]at h1;cases h1
   show g<ja.vals.length*1000;omega
  ·obtain⟨i,t,sz,h1,h2,h3⟩:=dY ja.vals 0 g z hz;have:i<ja.vals.length:=by
    rcases Gp i ja.vals.length with h|h
    ·exact h
    ·rw[Gi h]at h1;cases h1
   show g<ja.vals.length*1000;omega
omit [Dr]in
theorem yw(d:Nat)(h:Hp):gO d h .any= .any:=by cases d<;>rfl
omit [Dr]in
theorem tm(g:AV->AV)(hg:g .any= .any)(vs:List AV)(i:Nat):ah (vs.map g) i=g (ah vs i):=by
 unfold ah;rw[GG,GG,Hk];cases vs[i]? with
 |none=>simp[hg]
 |some v=>rfl
structure Reval (g:AV->AV) (x y:Ent):Prop where
 gr:y.g=x.g
 v:(∃a,x.v= .val a/\y.v= .val (g a))\/(∃B off,x.v= .loc B off/\y.v= .loc B off)
omit [Dr]in
theorem dV(g:AV->AV)(hg:g .any= .any)(vs:List AV)(r:List (Nat×Ent))(hr:∀t,Reval g (bi r t) (bi r t))(t:Nat):∀(l:List (Nat×Option Nat))(k:Nat),
  Reval g (bi (bG vs k l++r) t) (bi (bG (vs.map g) k l++r) t)
 |[],k=>by simpa [bG]using hr t
 |(s,none):: l,k=>by
  simp only[bG,GJ,bi];cases Nat.beq s t with
  |true=>exact⟨rfl,.inl ⟨_,rfl,by simp only[F9];rw[tm g hg]⟩⟩
  |false=>exact dV g hg vs r hr t l (k+1)
 |(s,some z):: l,k=>by
  simp only[bG,GJ,bi];cases Nat.beq s t with
  |true=>exact⟨rfl,.inl ⟨_,rfl,by simp only[F9];rw[tm g hg]⟩⟩
  |false=>exact dV g hg vs r hr t l (k+1)
omit [Dr]in
theorem oP(g:AV->AV)(hg:g .any= .any)(ja:JA)(vs:List AV)(t:Nat):Reval g ((unpack ja vs).get t) ((unpack ja (vs.map g)).get t):=by
 refine dV g hg vs _ (fun t=>?_) t ja.vals 0;rcases jH t ja.locs with⟨B,off,_,k2⟩|k
 ·rw[k2];exact⟨rfl,.inr ⟨B,off,rfl,rfl⟩⟩
 ·rw[k];exact⟨rfl,.inl ⟨.any,rfl,by simp[Ent.none,hg]⟩⟩
theorem FR.reval{U:Nat->Prop}{S:ap}{β:List aZ}{γ:Nat->Value}{lam:Nat->Option Nat}{ω:Nat->Owner}{e2:Env}{h2:Hp}{S2:ap}{ω2:Nat->Owner}{g:AV->AV}(F:FR c N U e h a w S β γ lam ω)(F2:FR c N U e h2 a w S2 β γ lam ω2)(hg:∀x v,VR S β x v->VR S2 β (g x) v)(hr:∀t,Reval g (e.get t) (e2.get t))(hal:e2.al=e.al)(hlb:e2.lb=e.lb):FR c N U e2 h2 a w S2 β γ lam ω2:=by
 refine⟨F2.wf,F2.gro,F2.keep,F2.le,F2.ext,F2.hlen,F2.heap,F2.tsz,fun t ht=>?_,fun t k z ht hk hz=>?_,fun B n hB=>?_,fun k z hz=>F2.free k z (by rw[<- hal];exact hz),F2.mine,fun t k hk=>?_,fun k z hz=>F2.used.2 k z (by rw[<- hal];exact hz)⟩
 ·have h1:=F.slots t ht;rcases (hr t).v with⟨x,q1,q2⟩|⟨B,off,q1,q2⟩
  ·rw[q1]at h1;rw[q2];exact hg _ _ h1
  ·rw[q1]at h1;rw[q2];exact h1
 ·rw[(hr t).gr]at hk;rw[hal]at hz;exact F2.grps t k z ht hk hz
 ·rw[hlb]at hB;obtain⟨k1,k2,k3,b,x,k4,k5,k6,k7,k8⟩:=F2.lblk B n hB;obtain⟨_,_,_,b',x',j4,j5,j6,j7,j8⟩:=F.lblk B n hB;rw[k4]at j4;cases j4;cases k5.inj j5;refine⟨k1,k2,k3,b,x,k4,k5,k6,k7,fun i hi=>?_⟩;obtain⟨v,a',m1,m2,m3,m4⟩:=k8 i hi;obtain⟨v',a'',n1,n2,n3,_⟩:=j8 i hi;rw[m1]at n1;cases n1;rcases (hr (B+i)).v with⟨y,q1,q2⟩|⟨B',off,q1,q2⟩
  ·rw[n2]at q1;cases q1;refine⟨v,g a'',m1,q2,hg _ _ n3,fun k z hk hz=>?_⟩;rw[(hr (B+i)).gr]at hk;rw[hal]at hz;exact m4 k z hk hz
  ·rw[n2]at q1;cases q1
 ·rw[(hr t).gr]at hk;exact F2.used.1 t k hk
theorem mD{ja:JA}{vs:List AV}(H:f5 c N (unpack ja vs) h a w):f5 c N (unpack ja (vs.map (gO 6 h))) (h.map fun _=>[]) a w:=by
 obtain⟨S,β,γ,lam,ω,F⟩:=H;obtain⟨S2,ω2,F2,hf⟩:=F.freeze;have F3:=F.reval F2 (g:=gO 6 h) (fun x v hx=>hf _ _ hx) (oP _ (yw 6 h) ja vs) (e2:=unpack ja (vs.map (gO 6 h))) rfl rfl;exact⟨S2,β,γ,lam,ω2,F3⟩
end
end Go.Av
namespace Go.Av
variable [Dr]
section
variable {P:Program} {cx:Cx} {c:Entry} {e:Env} {h:Hp} {a:Act} {w:World} {ops:Array Oper} {id:Nat}
theorem sa{ρ:Type}(hT:TOK P cx.T)(hC:bD P cx.own cx.call)(hI:IsoCall cx)(hk:∀p,ul (bA cx.ann.kinds p .L)=true->p<cx.nt){draw:Bool}{k:Env->M ρ}(H:f5 c cx.nt e h a w)(hr:ju cx id ops draw e k h≠.fail){Q:Exit->Act->World->Prop}(hn:∀e' h' a' w',ju cx id ops draw e k h=k e' h'->f5 c cx.nt e' h' a' w'->a'.defers=a.defers->Q .normal a' w')(hp:∀pv h' v w' a',ju cx id ops draw e k h= .pan pv h'->ir c pv h' v w'->a'.defers=a.defers->Q (.panic [{ v,recovered:=false }]) a' w'):
  (Code.region id ops draw).wp P Q a w:=uE hT hC hI hk H hr hn hp
end
end Go.Av
namespace Go.Av
variable [Dr]
section
variable {P:Program} {Q:Exit->Act->World->Prop} {b:Code}
def gb(P:Program)(c:Code)(Q:Exit->Act->World->Prop)(a:Act)(w:World):Prop:=
 ∀(b:Frame)(k:List Item)(cs:List Frame),∃e a' w',Q e a' w'/\Arrives P (lone (b.at a (.code c:: .inLoop c:: k)) cs w) b k cs e a' w'
omit [Dr]in
theorem gb.loop{a:Act}{w:World}(h:gb P b Q a w):(Code.loop b).wp P Q a w:=
 fun f k cs=>let ⟨e,a',w',q,r⟩:=h f k cs;⟨e,a',w',q,.of_steps (.one step_loop) r⟩
omit [Dr]in
theorem gb.round{a:Act}{w:World}(h:b.wp P (Exit.then (gb P b Q) Q) a w):gb P b Q a w:=by
 intro f k cs;obtain⟨e,a₁,w₁,hq,harr⟩:=h f (.inLoop b:: k) cs;cases e with
 |normal=>
  obtain⟨e₂,a₂,w₂,hq₂,harr₂⟩:=hq f k cs;exact⟨e₂,a₂,w₂,hq₂,.of_steps (Steps.trans harr (.one step_inLoop)) harr₂⟩
 |exit id=>exact⟨_,a₁,w₁,hq,.pass (x:=.inLoop b) rfl (fun _ _=>.inl (by simp)) harr⟩
 |goto l=>exact⟨_,a₁,w₁,hq,.pass (x:=.inLoop b) rfl (fun _ _=>.inl (by simp)) harr⟩
 |ret=>exact⟨_,a₁,w₁,hq,.pass (x:=.inLoop b) rfl (fun _ _=>.inl (by simp)) harr⟩
 |panic ch=>exact⟨_,a₁,w₁,hq,.pass (x:=.inLoop b) rfl (fun _ _=>.inl (by simp)) harr⟩
 |outgrown=>exact⟨_,a₁,w₁,hq,.pass (x:=.inLoop b) rfl (fun _ _=>.inl (by simp)) harr⟩
end
section
variable {P:Program} {cx:Cx} {c:Entry} {ρ:Type}
omit [Dr]in
theorem wa{fx:cQ ρ}{id:Nat}{code:Code}{e:Env}{kn kr:Env->M ρ}{kx:Nat->Env->M ρ}(hc:∀b,code≠.loop b):
  ev cx fx (.block id code) e kn kx kr=ev cx fx code e kn (fun i e'=>bif Nat.beq i id then kn e' else kx i e') kr:=by
 cases code<;>first|rfl|exact absurd rfl (hc _)
def rM(cx:Cx)(x:Code):Option JA:=match iO x with
 |some t=>kf cx.ann.joins t
 |none=>none
omit [Dr]in
theorem A9{fx:cQ ρ}{x y:Code}{e:Env}{kn kr:Env->M ρ}{kx:Nat->Env->M ρ}:ev cx fx (.seq x y) e kn kx kr=(match rM cx x with
  |some ja=>jn (fun vs=>ev cx fx y (unpack ja vs) kn kx kr) fun j=>ev cx fx x e (mh ja j) kx kr
  |none=>ev cx fx x e (fun e'=>ev cx fx y e' kn kx kr) kx kr):=by
 unfold rM;simp only[ev];cases iO x with
 |none=>rfl
 |some t=>
  simp only;cases kf cx.ann.joins t<;>rfl
structure Posts (c:Entry) (N:Nat) (r:R ρ) (a:Act) (kn:Env->M ρ) (kx:Nat->Env->M ρ) (kr:Env->M ρ) (Q:Exit->Act->World->Prop):Prop where
 nrm:∀e' h' a' w',r=kn e' h'->f5 c N e' h' a' w'->a'.defers=a.defers->Q .normal a' w'
 ext:∀i e' h' a' w',r=kx i e' h'->f5 c N e' h' a' w'->a'.defers=a.defers->Q (.exit i) a' w'
 ret:∀e' h' a' w',r=kr e' h'->f5 c N e' h' a' w'->a'.defers=a.defers->Q .ret a' w'
 pan:∀pv h' v w' a',r= .pan pv h'->ir c pv h' v w'->a'.defers=a.defers->Q (.panic [{ v,recovered:=false }]) a' w'
theorem oO{ja:JA}{j:List AV->M ρ}{e:Env}{h:Hp}{N:Nat}{a:Act}{w:World}(H:f5 c N e h a w)(hr:mh ja j e h≠.fail):∃vs h',mh ja j e h=j vs h'/\f5 c N (unpack ja vs) h' a w:=by
 unfold mh at hr |-;cases hp:pack ja e with
 |none=>rw[hp]at hr;exact absurd rfl hr
 |some vs=>
  have hs:=oQ H hp;simp only;cases ja.fz with
  |false=>exact⟨vs,h,rfl,hs⟩
  |true=>exact⟨_,_,rfl,mD hs⟩
theorem wb(hT:TOK P cx.T)(hC:bD P cx.own cx.call)(hI:IsoCall cx)(hk:∀p,ul (bA cx.ann.kinds p .L)=true->p<cx.nt)(m:Nat):∀(n:Nat)(code:Code),SizeOf.sizeOf code<n->
  ∀(e:Env)(h:Hp)(a:Act)(w:World)(kn:Env->M ρ)(kx:Nat->Env->M ρ)(kr:Env->M ρ)(Q:Exit->Act->World->Prop),f5 c cx.nt e h a w->ev cx (bU m) code e kn kx kr h≠.fail->
  Posts c cx.nt (ev cx (bU m) code e kn kx kr h) a kn kx kr Q->code.wp P Q a w:=by
 intro n
 induction n with
 |zero=>intro code hn;omega
 | succ n ih=>
  intro code hn e h a w kn kx kr Q H hr hp;cases code<;>(try exact absurd rfl hr)
  case skip=>exact wp_skip (hp.nrm e h a w rfl H rfl)
  case exit id=>exact wp_exit (hp.ext id e h a w rfl H rfl)
  case ret=>exact wp_ret (hp.ret e h a w rfl H rfl)
  case region id ops draw=>exact sa hT hC hI hk H hr hp.nrm hp.pan
  case seq x y=>
   have hx:SizeOf.sizeOf x<n:=by simp at hn;omega
   have hy:SizeOf.sizeOf y<n:=by simp at hn;omega
   refine wp_seq ?_;rw[A9]at hr hp;generalize rM cx x=oj at hr hp;cases oj with
   |none=>
    simp only at hr hp;refine ih x hx e h a w _ kx kr _ H hr ⟨fun e' h' a' w' hok hs hd=>?_,fun i e' h' a' w' hok hs hd=>hp.ext i e' h' a' w' hok hs hd,fun e' h' a' w' hok hs hd=>hp.ret e' h' a' w' hok hs hd,fun pv h' v w' a' hok hs hd=>hp.pan pv h' v w' a' hok hs hd⟩;rw[hok]at hr hp;exact ih y hy e' h' a' w' kn kx kr Q hs hr ⟨fun e2 h2 a2 w2 k1 k2 k3=>hp.nrm e2 h2 a2 w2 k1 k2 (k3.trans hd),fun i e2 h2 a2 w2 k1 k2 k3=>hp.ext i e2 h2 a2 w2 k1 k2 (k3.trans hd),fun e2 h2 a2 w2 k1 k2 k3=>hp.ret e2 h2 a2 w2 k1 k2 (k3.trans hd),fun pv h2 v w2 a2 k1 k2 k3=>hp.pan pv h2 v w2 a2 k1 k2 (k3.trans hd)⟩
   |some ja=>
    simp only[jn]at hr hp;refine ih x hx e h a w _ kx kr _ H hr ⟨fun e' h' a' w' hok hs hd=>?_,fun i e' h' a' w' hok hs hd=>hp.ext i e' h' a' w' hok hs hd,fun e' h' a' w' hok hs hd=>hp.ret e' h' a' w' hok hs hd,fun pv h' v w' a' hok hs hd=>hp.pan pv h' v w' a' hok hs hd⟩;rw[hok]at hr hp;obtain⟨vs,h3,hj,hs3⟩:=oO hs hr;rw[hj]at hr hp;exact ih y hy (unpack ja vs) h3 a' w' kn kx kr Q hs3 hr ⟨fun e2 h2 a2 w2 k1 k2 k3=>hp.nrm e2 h2 a2 w2 k1 k2 (k3.trans hd),fun i e2 h2 a2 w2 k1 k2 k3=>hp.ext i e2 h2 a2 w2 k1 k2 (k3.trans hd),fun e2 h2 a2 w2 k1 k2 k3=>hp.ret e2 h2 a2 w2 k1 k2 (k3.trans hd),fun pv h2 v w2 a2 k1 k2 k3=>hp.pan pv h2 v w2 a2 k1 k2 (k3.trans hd)⟩
  case cond o x y=>
   have hx:SizeOf.sizeOf x<n:=by simp at hn;omega
   have hy:SizeOf.sizeOf y<n:=by simp at hn;omega
   cases o<;>(try exact absurd rfl hr)
   case const v=>
    simp only[ev]at hr hp
    have hav:∀b,cA v= .bool b->a.eval (.const v)= .bool b:=by
     intro b hb;show v= .bool b;cases v with
     |bool c=>simp only[cA,sL,AV.bool.injEq]at hb;rw[hb]
     |tuple vs=>simp only[cA]at hb;cases hvs:vs.isEmpty<;>rw[hvs]at hb<;>cases hb
     |pointer p=>cases p<;>(simp only[cA,sL]at hb;cases hb)
     |map p=>cases p<;>(simp only[cA,sL]at hb;cases hb)
     | slice p n m=>
      have hs:sL (.slice p n m)= .sl []\/sL (.slice p n m)= .any:=by
       cases p with
       |some q=>exact .inr rfl
       | none=>cases n with
        |succ n=>exact .inr rfl
        |zero=>cases m with
         |succ m=>exact .inr rfl
         |zero=>exact .inl rfl
      simp only[cA]at hb;rcases hs with hs|hs<;>rw[hs]at hb<;>cases hb
     |_=>simp only[cA,sL]at hb;cases hb
    cases hq:cA v<;>rw[hq]at hr hp<;>(try exact absurd rfl hr);rename_i b;cases b with
    |true=>exact wp_cond (hav true hq) (ih x hx e h a w kn kx kr Q H hr hp)
    |false=>exact wp_cond (hav false hq) (ih y hy e h a w kn kx kr Q H hr hp)
   rename_i t;simp only[ev]at hr hp;cases ht:decide (t<1000)with
   |false=>rw[ht]at hr;exact absurd rfl hr
   | true=>
    rw[ht]at hr hp;simp only[F9]at hr hp;have htl:t<1000:=by simpa using ht
    have hav:∀b,e.av t= .bool b->a.eval (.tmp t)= .bool b:=by
     intro b hb;obtain⟨S,β,γ,lam,ω,F⟩:=H;have hs:=F.slots t htl;simp only[Env.av,Ent.av]at hb;cases hv:(e.get t).v with
     |val av=>
      rw[hv]at hs hb;simp only at hb;subst hb;simp only[dw,VR]at hs;exact hs
     |loc B off=>rw[hv]at hb;cases hb
    cases hq:e.av t<;>rw[hq]at hr hp<;>(try exact absurd rfl hr);rename_i b;cases b with
    |true=>exact wp_cond (hav true hq) (ih x hx e h a w kn kx kr Q H hr hp)
    |false=>exact wp_cond (hav false hq) (ih y hy e h a w kn kx kr Q H hr hp)
  case block id code=>
   refine wp_block ?_;by_cases hc:∃b,code= .loop b
   ·obtain⟨b,rfl⟩:=hc;have hb:SizeOf.sizeOf b<n:=by simp at hn;omega
    simp only[ev]at hr hp;cases hja:kf cx.ann.loops id with
    |none=>rw[hja]at hr;exact absurd rfl hr
    | some ja=>
     rw[hja]at hr hp;simp only at hr hp;refine gb.loop ?_;obtain⟨vs,h3,hj,hs3⟩:=oO H hr;rw[hj]at hr hp;have key:∀(k:Nat)(vs:List AV)(h:Hp)(a1:Act)(w:World),f5 c cx.nt (unpack ja vs) h a1 w->a1.defers=a.defers->
       bU k (fun self vs=>ev cx (bU m) b (unpack ja vs) (mh ja self) (fun i e'=>bif Nat.beq i id then kn e' else kx i e') kr) vs h≠.fail->
       Posts c cx.nt (bU k (fun self vs=>ev cx (bU m) b (unpack ja vs) (mh ja self) (fun i e'=>bif Nat.beq i id then kn e' else kx i e') kr) vs h) a kn kx kr Q->gb P b (Exit.inBlock id Q) a1 w:=by
      intro k
      induction k with
      |zero=>intro vs h a1 w _ _ hr _;exact absurd rfl hr
      | succ k ihk=>
       intro vs h a1 w hs hd hr hp;simp only[bU]at hr hp;refine gb.round (ih b hb (unpack ja vs) h a1 w _ _ kr _ hs hr ⟨fun e' h' a' w' hok hs' hd'=>?_,fun i e' h' a' w' hok hs' hd'=>?_,fun e' h' a' w' hok hs' hd'=>hp.ret e' h' a' w' hok hs' (hd'.trans hd),fun pv h' v w' a' hok hs' hd'=>hp.pan pv h' v w' a' hok hs' (hd'.trans hd)⟩)
       ·rw[hok]at hr hp;obtain⟨vs',h4,hj',hs4⟩:=oO hs' hr;rw[hj']at hr hp;exact ihk vs' h4 a' w' hs4 (hd'.trans hd) hr hp
       ·cases hi:Nat.beq i id with
        |true=>
         rw[hi]at hok
         have:=Gh hi
         subst this;show Exit.inBlock i Q (.exit i) a' w';simp only[Exit.inBlock,GP];exact hp.nrm e' h' a' w' hok hs' (hd'.trans hd)
        |false=>
         rw[hi]at hok;have hne:i≠id:=fun hh=>by subst hh;simp at hi
         show Exit.inBlock id Q (.exit i) a' w';simp only[Exit.inBlock,if_neg hne];exact hp.ext i e' h' a' w' hok hs' (hd'.trans hd)
     exact key m vs h3 a w hs3 rfl hr hp
   ·have hc':∀b,code≠.loop b:=fun b hb=>hc ⟨b,hb⟩;rw[wa hc']at hr hp;have hs:SizeOf.sizeOf code<n:=by simp at hn;omega
    refine ih code hs e h a w kn _ kr _ H hr ⟨fun e' h' a' w' hok hs' hd'=>hp.nrm e' h' a' w' hok hs' hd',fun i e' h' a' w' hok hs' hd'=>?_,fun e' h' a' w' hok hs' hd'=>hp.ret e' h' a' w' hok hs' hd',fun pv h' v w' a' hok hs' hd'=>hp.pan pv h' v w' a' hok hs' hd'⟩;cases hi:Nat.beq i id with
    |true=>
     rw[hi]at hok
     have:=Gh hi
     subst this;show Exit.inBlock i Q (.exit i) a' w';simp only[Exit.inBlock,GP];exact hp.nrm e' h' a' w' hok hs' hd'
    |false=>
     rw[hi]at hok;have hne:i≠id:=fun hh=>by subst hh;simp at hi
     show Exit.inBlock id Q (.exit i) a' w';simp only[Exit.inBlock,if_neg hne];exact hp.ext i e' h' a' w' hok hs' hd'
end
end Go.Av
namespace Go.Av
variable [Dr]
omit [Dr]in
theorem lc:∀(args:List AV)(i t:Nat),bi (pb i args) t=if i<=t/\t<i+args.length then⟨.val (ah args (t-i)),none⟩else Ent.none
 |[],i,t=>by
  simp only[pb,bi,GM,G4];rw[if_neg (by omega)]
 | a:: as0,i,t=>by
  simp only[pb,bw,Gu];by_cases h:i=t
  ·subst h;rw[Gg rfl,Gg (by omega)];simp[ah]
  ·rw[if_neg h,lc as0 (i+1) t];by_cases h2:i+1<=t/\t<i+1+as0.length
   ·rw[Gg h2,Gg (by omega)];have:t-i=(t-(i+1))+1:=by omega
    simp[ah,this]
   ·rw[if_neg h2,if_neg (by omega)]
section
variable {P:Program} {cx:Cx}
open Classical in
theorem BM{w:World}{S:ap}{β:List aZ}{h:Hp}{args:List AV}{vs:List Value}{n:Nat}(hg:kz S β h w)(hw:Wf S w)(hh:a7 S β w h)(hv:aP S β args vs)(hn:args.length<=n)(hn2:n<=1000):
  ∃γ lam ω,FR { w,S,β,E:=a8 β h,gok:=hg } n (fun g=>g<(kA args).nx*1000) (kA args) h { tmps:=vs.toArray++Array.replicate (n-vs.toArray.size) undef,defers:=[] } w S β γ lam ω:=by
 obtain⟨hlen,ω0,hr⟩:=hh;have hvl:=hv.length;have hget:∀t,(kA args).get t=if t<args.length then⟨.val (ah args t),none⟩else Ent.none:=fun t=>by
  have:=lc args 0 t
  simp only[Hi,true_and,GE,Nat.sub_zero]at this;exact this
 let ω:Nat->Owner:=fun b=>if a8 β h b then ω0 b else .no;refine⟨fun _=>undef,fun _=>none,ω,⟨hw,Gro.refl _,fun b _ _=>⟨rfl,fun _=>rfl⟩,ap.le_refl S,cq.refl β,hlen,fun l cs hl hcs=>?_,⟨?_,hn2⟩,fun t ht=>?_,fun t g z ht hg=>?_,fun B m hB=>?_,fun g z hz=>?_,fun b hb=>?_,fun t g hg=>?_,fun g z hz=>?_⟩⟩
 ·have hown:∀b n,β[l]? = some (b,n)->ω0 b= .heap l->ω b= .heap l:=fun b n h1 h3=>by
   show (if a8 β h b then ω0 b else .no)=_;rw[Gg ⟨l,cs,_,hl,hcs,h1⟩];exact h3
  rcases hr l cs hl hcs with⟨b,x,h1,h2,h3,h4⟩|⟨b,h1,h3,h4⟩
  ·exact .inl ⟨b,x,h1,h2,hown b _ h1 h3,h4⟩
  ·exact .inr ⟨b,h1,hown b _ h1 h3,h4⟩
 ·simp;omega
 ·rw[hget];split
  ·rename_i hlt;have hx:args[t]? = some (ah args t):=by simp[ah,hlt]
   obtain⟨v,h1,h2⟩:=hv.get hx;have:(vs.toArray++Array.replicate (n-vs.toArray.size) undef).getD t undef=v:=by
    rw[Gy,Ix (by simp;omega)];simp[h1]
   rw[this];exact h2
  ·simp[Ent.none,dw,VR]
 ·rw[hget]at hg;split at hg<;>cases hg
 ·cases hB
 ·cases hz
 ·have hb':a8 β h b:=by
   by_cases ho:a8 β h b
   ·exact ho
   ·exact absurd (show ω b= .no from if_neg ho) hb
  obtain⟨l,cs,m,h1,h2,h3⟩:=hb';obtain⟨b',x,k1,k2,k3,_⟩:=hr.own h1 h2;rw[h3]at k1;cases k1;have hω:ω b= .heap l:=by
   show (if a8 β h b then ω0 b else .no)=_;rw[Gg ⟨l,cs,_,h1,h2,h3⟩];exact k3
  exact⟨.inl ⟨⟨l,cs,_,h1,h2,h3⟩,fun g=>by rw[hω];simp⟩,k2⟩
 ·rw[hget]at hg;split at hg<;>cases hg
 ·cases hz
theorem start{w:World}{S:ap}{β:List aZ}{h:Hp}{args:List AV}{vs:List Value}{n:Nat}(hg:kz S β h w)(hw:Wf S w)(hh:a7 S β w h)(hv:aP S β args vs)(hn:args.length<=n)(hn2:n<=1000):
  f5 { w,S,β,E:=a8 β h,gok:=hg } n (kA args) h { tmps:=vs.toArray++Array.replicate (n-vs.toArray.size) undef,defers:=[] } w:=⟨S,β,BM hg hw hh hv hn hn2⟩
def eB(tmps:Array Value):ResultVar->Sem Value
 |.tmp t=>pure (tmps.getD t undef)
 |.cell p t=>do loadVar t (<- asAddr (tmps.getD p undef))
omit [Dr]in
theorem l7(fn:Func)(tmps:Array Value):results fn tmps=(do let vs <- fn.results.mapM (eB tmps);pure (if h:vs.size=1 then vs[0]else .tuple vs)):=by
 unfold results;congr 1
theorem BJ{c:Entry}{N:Nat}{U:Nat->Prop}{e:Env}{h:Hp}{a:Act}{w:World}{S:ap}{β:List aZ}{γ:Nat->Value}{lam:Nat->Option Nat}{ω:Nat->Owner}(hT:TOK P cx.T)(F:FR c N U e h a w S β γ lam ω){r:ResultVar}{v:AV}(hr:qD cx.T e r=some v):∃u,(eB a.tmps r).run P w= .ok u w/\VR S β v u:=by
 cases r with
 | tmp t=>
  simp only[qD]at hr;cases ht:decide (t<1000)with
  |false=>rw[ht]at hr;cases hr
  | true=>
   rw[ht]at hr;simp only[F9]at hr;have hs:=F.slots t (by simpa using ht);cases hv:(e.get t).v with
   |loc B off=>rw[hv]at hr;cases hr
   |val av=>
    rw[hv]at hr hs;simp only[F7]at hr;subst hr;exact⟨_,by simp only[eB,Sem.run_pure],hs⟩
 | cell p t=>
  simp only[qD]at hr;cases hp:decide (p<1000)with
  |false=>rw[hp]at hr;cases hr
  | true=>
   rw[hp]at hr;simp only[F9]at hr;have hs:=F.slots p (by simpa using hp);cases hv:(e.get p).v with
   | loc B off=>
    rw[hv]at hr hs;cases ht:cx.T t with
    |none=>rw[ht]at hr;cases hr
    | some ti=>
     rw[ht]at hr;simp only at hr;cases hin:eT e B off ti.size with
     |false=>rw[hin]at hr;cases hr
     | true=>
      rw[hin]at hr;simp only[F9]at hr;simp only[dw]at hs;obtain⟨b,hlam,hpv⟩:=hs;obtain⟨b',x,m,hm,hle,hlam',hrow,hms,hcells⟩:=F.locals hin;rw[hlam]at hlam';cases hlam';let f:Nat->Value:=fun i=>(x[off+i]?).getD undef;have hf:∀i,i<ti.size->x[off+i]? = some (f i):=fun i hi=>by
       obtain⟨v,_,hv',_⟩:=hcells i hi;show _=some ((x[off+i]?).getD undef);rw[hv'];rfl
      have hload:=ko hT ht hrow f hf;have hexec:∀v,(loadVar t ⟨b,off,none⟩).run P w= .ok v w->(eB a.tmps (.cell p t)).run P w= .ok v w:=fun v hv'=>by
       simp only[eB];rw[hpv];simpa [asAddr]using hv'
      cases hag:ti.agg with
      |true=>
       rw[hag]at hr;simp only[F9,F7]at hr;subst hr;refine⟨_,hexec _ (hload.1 hag),?_⟩;simp only[VR];refine⟨_,rfl,ly ti.size fun i hi=>?_⟩;obtain⟨v,a',g1,g2,g3,_⟩:=hcells i hi;have:f i=v:=by show (x[off+i]?).getD undef=v;rw[g1];rfl
       rw[this];simp only[Env.av,Ent.av,g2];exact g3
      | false=>
       rw[hag]at hr;simp only[Gd]at hr;cases hone:decide (ti.size=1)with
       |false=>rw[hone]at hr;cases hr
       |true=>
        rw[hone]at hr;simp only[F9,F7]at hr;subst hr;have hone':ti.size=1:=by simpa using hone
        obtain⟨v,a',g1,g2,g3,g4⟩:=hcells 0 (by omega);simp only[G4]at g1 g2 g4;have hfv:f 0=v:=by show (x[off+0]?).getD undef=v;rw[G4,g1];rfl
        refine⟨v,hexec _ (hfv▸hload.2 hag hone'),?_⟩;simp only[Env.av,Ent.av,g2];exact g3
   | val av=>
    rw[hv]at hr hs;cases ht:cx.T t with
    |none=>rw[ht]at hr;cases hr
    |some ti=>
     rw[ht]at hr;simp only at hr;obtain⟨v,h1,h2⟩:=s7 hT F.wf hr hs;refine⟨v,?_,h2⟩;unfold am at hr;rw[ht]at hr;cases av<;>simp only[reduceCtorEq]at hr;simp only[dw,VR]at hs;obtain⟨b,off,vs,hpv,_,_⟩:=hs;simp only[eB];rw[hpv]at h1 |-;simpa [Instr.loadAt,Instr.sureAddr,asAddr]using h1
theorem sb{c:Entry}{N:Nat}{U:Nat->Prop}{e:Env}{h:Hp}{a:Act}{w:World}{S:ap}{β:List aZ}{γ:Nat->Value}{lam:Nat->Option Nat}{ω:Nat->Owner}(hT:TOK P cx.T)(F:FR c N U e h a w S β γ lam ω){fn:Func}{vs:List AV}(hr:dP cx.T e fn.results.toList=some vs):∃u,(results fn a.tmps).run P w= .ok u w/\VR S β (im vs) u:=by
 have key:∀(l:List ResultVar)(vs:List AV),dP cx.T e l=some vs->∃us:List Value,(l.mapM (eB a.tmps)).run P w= .ok us w/\aP S β vs us:=by
  intro l
  induction l with
  |nil=>intro vs h;simp only[dP,F7]at h;subst h;exact⟨[],by simp,by simp[aP]⟩
  | cons r rs ih=>
   intro vs h;simp only[dP]at h;cases h1:qD cx.T e r with
   |none=>rw[h1]at h;cases h
   | some v=>
    cases h2:dP cx.T e rs with
    |none=>rw[h1,h2]at h;cases h
    |some vs'=>
     rw[h1,h2]at h;simp only[F7]at h;subst h;obtain⟨u,k1,k2⟩:=BJ hT F h1;obtain⟨us,m1,m2⟩:=ih vs' h2;refine⟨u:: us,?_,by simp only[aP];exact⟨u,us,rfl,k2,m2⟩⟩;rw[List.mapM_cons,Sem.run_bind,k1,Result.andThen_ok,Sem.run_bind,m1,Result.andThen_ok,Sem.run_pure]
 obtain⟨us,k1,k2⟩:=key _ _ hr;have hlen:=k2.length;have hrun:(fn.results.mapM (eB a.tmps)).run P w= .ok us.toArray w:=by
  rw[IC];rw[map_eq_pure_bind,Sem.run_bind,k1,Result.andThen_ok,Sem.run_pure]
 refine⟨if h:us.toArray.size=1 then us.toArray[0]else .tuple us.toArray,?_,?_⟩
 ·rw[l7,Sem.run_bind,hrun,Result.andThen_ok,Sem.run_pure]
 ·unfold im;split
  ·rename_i v;cases us with
   |nil=>simp at hlen
   |cons u us=>
    cases us with
    |nil=>simp only[aP]at k2;obtain⟨x,xs,hx,hy,_⟩:=k2;simp at hx;simp[hx.1,hy]
    |cons u2 us=>simp at hlen
  ·rename_i hne;rw[dif_neg]
   ·simp only[VR];exact⟨us,rfl,k2⟩
   ·intro h1;have:vs.length=1:=by rw[<- hlen];simpa using h1
    match vs,this with
    |[v],_=>exact hne v rfl
end
end Go.Av
namespace Go.Av
variable [Dr]
omit [Dr]in
theorem qa{n:Nat}{ks:List (Nat×Kind)}(h:i6 n ks=true):∀p,ul (bA ks p .L)=true->p<n:=by
 intro p hp
 induction ks with
 |nil=>simp[bA,ul]at hp
 | cons x ks ih=>
  obtain⟨k,y⟩:=x;unfold i6 at h;simp only[GO,F8]at h;simp only[bA]at hp;cases hk:Nat.beq k p with
  |true=>
   rw[hk]at hp;simp only[F9]at hp
   have:=h.1
   rw[hp]at this;have hk':=Gh hk;subst hk';simpa using this
  |false=>
   rw[hk]at hp;exact ih h.2 hp
section
variable {P:Program} {cx:Cx}
theorem BF{c:Entry}{N:Nat}{U:Nat->Prop}{e:Env}{h:Hp}{a:Act}{w:World}{S:ap}{β:List aZ}{γ:Nat->Value}{lam:Nat->Option Nat}{ω:Nat->Owner}(F:FR c N U e h a w S β γ lam ω){fn:Func}{sz:Nat}(ho:oE fn e sz=true){u:Value}(hu:(results fn a.tmps).run P w= .ok u w):nO c.w.heap.size S β w h sz u:=by
 unfold oE at ho;split at ho
 ·rename_i t hres;cases ht:decide (t<1000)with
  |false=>rw[ht]at ho;cases ho
  | true=>
   rw[ht]at ho;simp only[HC]at ho;split at ho
   ·rename_i g hg;split at ho
    ·rename_i z hz;have hgr:=F.grps t g z (by simpa using ht) hg hz;obtain⟨ad,len,cap,h1,h2,h3,h4⟩:=F.free g z hz;have hue:u=a.tmps.getD t undef:=by
      have hr:fn.results= #[.tmp t]:=by apply Hr;simpa using hres
      rw[l7,hr]at hu;simp[eB]at hu;simpa using hu.symm
     rw[hue,hgr];refine⟨ad,len,cap,h1,h2,h3,h4.imp id ?_⟩;rintro⟨sz',b,off,x,k1,k2,k3,k4,k5,k6⟩;have hsz:sz'=sz:=by
      rw[k1]at ho;simp only[oN]at ho;exact Gh ho
     subst hsz;refine⟨b,off,x,k2,k3,k4,(F.mine b (by rw[k5];simp)).1.grp k5,fun hb=>?_,k6⟩;obtain⟨l,_,hl,_⟩:=F.hown hb;rw[k5]at hl;cases hl
    ·cases ho
   ·cases ho
 ·cases ho
omit [Dr]in
theorem wY{fn:Func}{own:Option Nat}{e:Env}{h:Hp}(hr:fu cx fn own e h≠.fail):∃rs,dP cx.T e fn.results.toList=some rs/\(fu cx fn own e h= .ok (im rs) h\/(own=none/\fu cx fn own e h= .ok (gO 6 h (im rs)) (h.map fun _=>[])))/\∀sz,own=some sz->oE fn e sz=true:=by
 have key:∀b z:Bool,(bif b then af (aj ((dP cx.T e fn.results.toList).map im)) (bif z then(bif own.isSome then fun _=>c7 else pO)else aw)else c7:M AV) h≠.fail->b=true/\∃rs,dP cx.T e fn.results.toList=some rs/\
   ((bif b then af (aj ((dP cx.T e fn.results.toList).map im)) (bif z then(bif own.isSome then fun _=>c7 else pO)else aw)else c7:M AV) h= .ok (im rs) h\/
    (own=none/\(bif b then af (aj ((dP cx.T e fn.results.toList).map im)) (bif z then(bif own.isSome then fun _=>c7 else pO)else aw)else c7:M AV) h= .ok (gO 6 h (im rs)) (h.map fun _=>[]))):=by
  intro b z hr;cases b with
  |false=>exact absurd rfl hr
  | true=>
   refine⟨rfl,?_⟩;cases hres:dP cx.T e fn.results.toList with
   |none=>rw[hres]at hr;exact absurd rfl hr
   | some rs=>
    rw[hres]at hr;cases z with
    |false=>exact⟨rs,rfl,.inl rfl⟩
    |true=>
     cases own with
     |none=>exact⟨rs,rfl,.inr ⟨rfl,rfl⟩⟩
     |some sz=>exact absurd rfl hr
 unfold fu at hr |-;cases own with
 |none=>
  obtain⟨_,rs,h1,h2⟩:=key true _ hr;exact⟨rs,h1,h2,fun sz hsz=>by cases hsz⟩
 |some sz=>
  obtain⟨h0,rs,h1,h2⟩:=key _ _ hr;exact⟨rs,h1,h2,fun sz' hsz=>by cases hsz;exact h0⟩
theorem eG(hT:TOK P cx.T)(hC:bD P cx.own cx.call)(hI:IsoCall cx)(m:Nat){f:FuncId}{fn:Func}(hf:P.funcs[f]? = some fn)(hnt:cx.nt=fn.ntmps){own:Option Nat}{args:List AV}{h:Hp}{S:ap}{β:List aZ}{w:World}{vs:List Value}(hr:bN cx (bU m) fn own args h≠.fail)(hg:kz S β h w)(hw:Wf S w)(hh:a7 S β w h)(hv:aP S β args vs):Calls P f vs.toArray w (bS own S β h w (bN cx (bU m) fn own args h))/\fn.body.isSome=true:=by
 unfold bN at hr |-;cases hb:fn.body with
 |none=>rw[hb]at hr;exact absurd rfl hr
 | some code=>
  rw[hb]at hr;simp only at hr |-;refine⟨?_,rfl⟩;cases hc:(decide (args.length<=fn.ntmps)&&decide (fn.ntmps<=1000)&&i6 cx.nt cx.ann.kinds)with
  |false=>rw[hc]at hr;exact absurd rfl hr
  | true=>
   rw[hc]at hr;simp only[F9]at hr |-;simp only[F8,Ge]at hc;obtain⟨⟨hc1,hc2⟩,hc3⟩:=hc;have H:f5 { w,S,β,E:=a8 β h,gok:=hg } cx.nt (kA args) h { tmps:=vs.toArray++Array.replicate (fn.ntmps-vs.toArray.size) undef,defers:=[] } w:=by
    rw[hnt];exact start hg hw hh hv hc1 hc2
   have hret:∀(e':Env)(h':Hp)(a':Act)(w':World),ev cx (bU m) code (kA args) (fu cx fn own) (fun _ _=>c7) (fu cx fn own) h=fu cx fn own e' h'->
     f5 { w,S,β,E:=a8 β h,gok:=hg } cx.nt e' h' a' w'->∃v,(results fn a'.tmps).run P w'= .ok v w'/\bS own S β h w (ev cx (bU m) code (kA args) (fu cx fn own) (fun _ _=>c7) (fu cx fn own) h) (.returned v) w':=by
    intro e' h' a' w' hok hs;rw[hok]at hr |-;obtain⟨rs,hres,hret,hown⟩:=wY hr;obtain⟨S',β',γ,lam,ω,F⟩:=hs;obtain⟨u,hu1,hu2⟩:=sb (P:=P) hT F hres;rcases hret with hret|⟨rfl,hret⟩
    ·rw[hret];exact⟨u,hu1,S',β',u,rfl,hu2,F.out,fun sz hsz=>BF F (hown sz hsz) hu1⟩
    ·rw[hret];obtain⟨S2,ω2,F2,hf⟩:=F.freeze;exact⟨u,hu1,S2,β',u,rfl,hf _ _ hu2,F2.out,fun sz hsz=>by cases hsz⟩
   refine calls_of_wp hf hb (wb hT hC hI (qa hc3) m _ code (Nat.lt_succ_self _) (kA args) h _ w _ _ _ _ H hr ⟨fun e' h' a' w' hok hs hd=>?_,fun i e' h' a' w' hok hs hd=>?_,fun e' h' a' w' hok hs hd=>?_,fun pv h' v w' a' hok hs hd=>?_⟩)
   ·exact⟨hd,hret e' h' a' w' hok hs⟩
   ·rw[hok]at hr;exact absurd rfl hr
   ·exact⟨hd,hret e' h' a' w' hok hs⟩
   ·refine⟨hd,?_⟩;rw[hok];obtain⟨S',β',hout,hvr⟩:=hs;exact⟨S',β',v,rfl,hvr,hout⟩
end
open Classical in
theorem sX{S:ap}{β:List aZ}{w w':World}{h:Hp}(_hw:Wf S w)(hh:a7 S β w h){β0:List aZ}{h0:Hp}(hE:∀b,¬a8 β0 h0 b){S':ap}{β':List aZ}{h':Hp}(L:Left (a8 β0 h0) S β0 w S' β' w' h'):∃S2,Left (a8 β h) S β w S2 β w' h/\(∀a v,VR S' β' a v->VR S2 β (gO 6 h' a) v)/\∀sz v,nO w.heap.size S' β' w' h' sz v->nO w.heap.size S2 β w' h sz v:=by
 obtain⟨hlen,ω,hH⟩:=L.heap;have hnew:∀b,a8 β' h' b->w.heap.size<=b:=fun b hb=>(L.owned b hb).resolve_left (hE b);let S2:ap:=fun b o=>if a8 β' h' b then w'.cell? ⟨b,o,none⟩else S' b o;have hS2n:∀b,¬a8 β' h' b->∀o,S2 b o=S' b o:=fun b hb o=>if_neg hb;have hS2y:∀b,a8 β' h' b->∀o,S2 b o=w'.cell? ⟨b,o,none⟩:=fun b hb o=>Gg hb;have hle:S'.le S2:=by
  intro b o v hv;by_cases hb:a8 β' h' b
  ·obtain⟨l,cs,n,h1,h2,h3⟩:=hb;obtain⟨b',x,k1,k2,k3,k5⟩:=hH.own h1 h2;rw[h3]at k1;cases k1;rw[k5]at hv;cases hv
  ·rw[hS2n b hb];exact hv
 have hrow:∀b,b<w.heap.size->w'.heap[b]? = w.heap[b]? /\∀o,S2 b o=S b o:=by
  intro b hb;have hk:=L.keep b hb (hE b);refine⟨hk.1,fun o=>?_⟩;rw[hS2n b (fun ho=>by have:=hnew b ho;omega)];exact hk.2 o
 have hwf:Wf S2 w':=by
  intro b o v hv;by_cases hb:a8 β' h' b
  ·rw[hS2y b hb]at hv;exact hv
  ·rw[hS2n b hb]at hv;exact L.wf b o v hv
 obtain⟨hlen0,ω0,hH0⟩:=hh;have hlt0:∀b,a8 β h b->b<w.heap.size:=by
  rintro b ⟨l,cs,n,h1,h2,h3⟩;obtain⟨b',x,k1,k2,_⟩:=hH0.own h1 h2;rw[h3]at k1;cases k1;exact k2
 have hle0:S.le S2:=ap.le_trans L.le hle;refine⟨S2,⟨hle0,cq.refl β,hwf,L.gro,fun b hb _=>hrow b hb,⟨hlen0,ω0,hH0.rows hle0 (cq.refl β) hlen0 fun l cs hl _=>.inl ⟨hl,fun b hb ho=>⟨ho,(hrow b hb).1,fun o h=>by rw[(hrow b hb).2];exact h⟩⟩⟩,fun b hb=>.inl hb⟩,fun a v hv=>oh hH hle (fun b o x hb hr=>?_) 6 a v hv,fun sz v=>?_⟩
 ·rw[hS2y b hb,hr.cell]
 ·rintro⟨ad,len,cap,k1,k2,k3,k4⟩;refine⟨ad,len,cap,k1,k2,k3,k4.imp id ?_⟩;rintro⟨b,off,x,p1,p2,p3,p4,p5,p6⟩;refine⟨b,off,x,p1,p2,p3,p4,fun hb=>?_,fun o ho=>by rw[hS2n b p5];exact p6 o ho⟩
  have:=hlt0 b hb
  omega
theorem p9{S:ap}{β:List aZ}{w w':World}{h:Hp}{own:Option Nat}{m:List AV->M AV}{args:List AV}{en:Ending}(hw:Wf S w)(hh:a7 S β w h)(hp:bS own S [] [] w (m (cU aB args) []) en w'):bS own S β h w (eM m args h) en w':=by
 have key:=fun{S':ap} {β':List aZ} {h':Hp} (L:Left (a8 [] []) S [] w S' β' w' h')=>sX hw hh (by rintro b ⟨l,cs,n,h1,_⟩;simp at h1) L;unfold eM;cases hm:m (cU aB args) []with
 |fail=>rw[hm]at hp;exact hp.elim
 |ok r h'=>
  rw[hm]at hp;obtain⟨S',β',v,h1,h2,h3,h4⟩:=hp;obtain⟨S2,k1,k2,k3⟩:=key h3;exact⟨S2,β,v,h1,k2 r v h2,k1,fun sz hsz=>k3 sz v (h4 sz hsz)⟩
 |pan r h'=>
  rw[hm]at hp;obtain⟨S',β',v,h1,h2,h3⟩:=hp;obtain⟨S2,k1,k2,k3⟩:=key h3;exact⟨S2,β,v,h1,k2 r v h2,k1⟩
structure GoodPg (P:Program) (p:Pg):Prop where
 tok:TOK P p.T
 funcs:∀f fn a,p.funcs f=some (fn,a)->P.funcs[f]? = some fn/\(fn.name== "runtime.NumGoroutine")=false
 other:∀f E,p.other f=some E->∀call,bD P p.own call->∀(args:List AV)(h:Hp)(S:ap)(β:List aZ)(w:World)(vs:List Value),E call args h≠.fail->kz S β h w->Wf S w->a7 S β w h->aP S β args vs->
  Calls P f vs.toArray w (bS (p.own f) S β h w (E call args h))/\(P.funcs[f]?).any (fun fn=>fn.body.isSome&&!(fn.name== "runtime.NumGoroutine"))=true
 nw:∀f,p.nw f=true->∃E,p.other f=some E/\∀call args,qV (E call args)
omit [Dr]in
theorem a7.nil{S:ap}{w:World}:a7 S [] w []:=⟨rfl,fun _=>.no,fun l cs hl=>by simp at hl⟩
theorem py{P:Program}{p:Pg}(G:GoodPg P p)(m:Nat){call:FuncId->List AV->M AV}(hC:bD P p.own call)(hI:∀n a,IsoCall (p.cx call n a)):bD P p.own (eX p call (bU m)):=by
 intro f args h S β w vs hr hg hw hh hv;unfold eX at hr |-;cases ho:p.other f with
 |some E=>rw[ho]at hr;exact G.other f E ho call hC args h S β w vs hr hg hw hh hv
 | none=>
  rw[ho]at hr;simp only at hr |-;cases hf:p.funcs f with
  |none=>rw[hf]at hr;exact absurd rfl hr
  | some x=>
   obtain⟨fn,a⟩:=x;rw[hf]at hr;simp only at hr |-;obtain⟨hf1,hf2⟩:=G.funcs f fn a hf
   have hany:fn.body.isSome=true->(P.funcs[f]?).any (fun fn=>fn.body.isSome&&!(fn.name== "runtime.NumGoroutine"))=true:=by
    intro hb;rw[hf1];simp only[Option.any_some,hb,hf2,Hj,Iy]
   cases hi:a.iso with
   |false=>
    rw[hi]at hr;simp only[Gd]at hr |-;obtain⟨h1,h2⟩:=eG (cx:=p.cx call fn.ntmps a) G.tok hC (hI _ _) m hf1 rfl hr hg hw hh hv;exact⟨h1,hany h2⟩
   | true=>
    rw[hi]at hr;simp only[F9]at hr |-;have hr':bN (p.cx call fn.ntmps a) (bU m) fn (p.own f) (cU aB args) []≠.fail:=by
     intro hf;unfold eM at hr;rw[hf]at hr;exact hr rfl
    obtain⟨h1,h2⟩:=eG (cx:=p.cx call fn.ntmps a) G.tok hC (hI _ _) m hf1 rfl hr' ⟨hg.1,fun b _ hb=>by obtain⟨l,_,_,h1,_⟩:=hb;simp at h1,hg.2.2⟩ hw a7.nil (po hv);exact⟨h1.mono fun en w' hp=>p9 hw hh hp,hany h2⟩
omit [Dr]in
theorem ry(p:Pg)(hN:∀f,p.nw f=true->∃E,p.other f=some E/\∀call args,qV (E call args)):∀n k a,IsoCall (p.cx (ca p n) k a)
 |0,k,a=>⟨fun f args _=>⟨none,fun _=>rfl⟩,fun f args _ h v h' hh=>by cases hh⟩
 | n+1,k,a=>by
  refine⟨?_,fun f args hf=>?_⟩
  case refine_2=>
   obtain⟨E,hE,hn⟩:=hN f hf;have:(p.cx (ca p (n+1)) k a).call f args=E (ca p n) args:=by
    show eX p (ca p n) (bU n) f args=_;unfold eX;rw[hE]
   rw[this];exact hn _ _
  intro f args hi;have hi':p.iso f=true:=hi;unfold Pg.iso at hi';cases ho:p.other f with
  |some E=>rw[ho]at hi';cases hi'
  | none=>
   rw[ho]at hi';simp only at hi';cases hf:p.funcs f with
   |none=>rw[hf]at hi';cases hi'
   |some x=>
    obtain⟨fn,b⟩:=x;rw[hf]at hi';simp only at hi';refine⟨match bN (p.cx (ca p n) fn.ntmps b) (bU n) fn (p.own f) (cU aB args) []with|.ok r h'=>some (true,gO 6 h' r)|.pan v h'=>some (false,gO 6 h' v)|.fail=>none,fun h=>?_⟩;show eX p (ca p n) (bU n) f args h=_;unfold eX;rw[ho];simp only;rw[hf];simp only[hi',F9,eM];cases bN (p.cx (ca p n) fn.ntmps b) (bU n) fn (p.own f) (cU aB args) []<;>rfl
theorem iT{P:Program}{p:Pg}(G:GoodPg P p):∀n,bD P p.own (ca p n)
 |0=>fun _f _args _h _S _β _w _vs hr=>absurd rfl hr
 |n+1=>py G n (iT G n) fun k a=>ry p G.nw n k a
end Go.Av
namespace Go.Av
def wB{m:List AV->M AV}{ms:Nat->List AV->M AV}(h:bp m ms)(args:List AV):bV (eM m args) fun n=>eM (ms n) args:=by
 intro x;obtain⟨h1,h2⟩:=h (cU aB args) []
 (try dsimp only at h1 h2)
 refine⟨fun hne=>?_,fun n hne=>?_⟩
 ·have hne':m (cU aB args) []≠.fail:=fun hf=>hne (by simp only[eM,hf]);obtain⟨N,hN⟩:=h1 hne';refine⟨N,fun n hn=>?_⟩
  (try dsimp only)
  simp only[eM,hN n hn]
 ·(try dsimp only at hne |-)
  have hne':ms n (cU aB args) []≠.fail:=fun hf=>hne (by simp only[eM,hf]);simp only[eM,h2 n hne']
def cK(p:Pg):Prop:=∀f E,p.other f=some E->∀(call:FuncId->List AV->M AV)(calls:Nat->FuncId->List AV->M AV),(∀f,bp (call f) fun n=>calls n f)->bp (E call) fun n=>E (calls n)
section
variable {cx:Cx} {call:FuncId->List AV->M AV} {calls:Nat->FuncId->List AV->M AV} {fx:cQ AV} {fxs:Nat->cQ AV}
theorem ru(hc:∀f,bp (call f) fun n=>calls n f)(hfx:jq fx fxs)(hfc:oT fx)(hfcs:∀n,oT (fxs n))(fn:Func)(own:Option Nat):
  bp (bN (cx.wc call) fx fn own) fun n=>bN (cx.wc (calls n)) (fxs n) fn own:=by
 intro args;unfold bN;cases fn.body with
 |none=>exact bu _
 | some c=>
  have key:∀b:Bool,bV (bif b then ev (cx.wc call) fx c (kA args) (fu (cx.wc call) fn own) (fun _ _=>c7) (fu (cx.wc call) fn own)else c7) fun n=>(bif b then ev (cx.wc (calls n)) (fxs n) c (kA args) (fu (cx.wc (calls n)) fn own) (fun _ _=>c7) (fu (cx.wc (calls n)) fn own)else c7):=by
   intro b;cases b with
   |false=>exact bu _
   |true=>
    have hr:bp (fu (cx.wc call) fn own) fun n=>fu (cx.wc (calls n)) fn own:=bp.const (fu cx fn own);exact A8 _ c (Nat.lt_succ_self _) call calls fx fxs hc hfx hfc hfcs (kA args) _ (fun n=>fu (cx.wc (calls n)) fn own) _ (fun _ _ _=>c7) _ (fun n=>fu (cx.wc (calls n)) fn own) hr (fun i=>bp.const _) hr
  exact key (decide (args.length<=fn.ntmps)&&decide (fn.ntmps<=1000)&&i6 cx.nt cx.ann.kinds)
theorem mY{p:Pg}(hO:cK p)(hc:∀f,bp (call f) fun n=>calls n f)(hfx:jq fx fxs)(hfc:oT fx)(hfcs:∀n,oT (fxs n))(f:FuncId):bp (eX p call fx f) fun n=>eX p (calls n) (fxs n) f:=by
 intro args;unfold eX;cases ho:p.other f with
 |some E=>exact hO f E ho call calls hc args
 | none=>
  simp only;cases p.funcs f with
  |none=>exact bu _
  |some x=>
   obtain⟨fn,a⟩:=x;simp only;have hb:=ru (cx:=p.cx call fn.ntmps a) hc hfx hfc hfcs fn (p.own f);cases a.iso with
   |true=>exact wB hb args
   |false=>exact hb args
end
theorem j0{p:Pg}(hO:cK p):∀n f args,sG (ca p n f args) (ca p (n+1) f args)
 |0,f,args=>fun x hne=>absurd rfl hne
 | n+1,f,args=>by
  have hc:∀f,bp (ca p (n+1) f) fun m=>(if m=0 then ca p n else ca p (n+1)) f:=by
   intro f args x;refine⟨fun _=>⟨1,fun m hm=>?_⟩,fun m hne=>?_⟩
   ·(try dsimp only)
    rw[if_neg (by omega)]
   ·(try dsimp only at hne |-)
    by_cases h0:m=0
    ·rw[Gg h0]at hne |-;exact j0 hO n f args x hne
    ·rw[if_neg h0]
  have h:=mY hO hc (pE n) (og (n+1)) (fun m=>by
   by_cases h0:m=0
   ·rw[Gg h0];exact og n
   ·rw[if_neg h0];exact og (n+1)) f args
  intro x hne
  have:=(h x).2 0
  (try dsimp only at this)
  rw[Gg rfl,Gg rfl]at this;exact this hne
def oc{p:Pg}(hO:cK p){n m:Nat}(h:n<=m)(f:FuncId)(args:List AV):sG (ca p n f args) (ca p m f args):=by
 induction m with
 | zero => have:n=0:=by omega
           subst this;exact .refl _
 |succ m ih=>
  by_cases hn:n=m+1
  ·subst hn;exact .refl _
  ·exact (ih (by omega)).trans (j0 hO m f args)
open Classical in
noncomputable def ai(p:Pg)(f:FuncId)(args:List AV):M AV:=fun h=>if hx:∃n,ca p n f args h≠.fail then ca p (Classical.choose hx) f args h else .fail
def gK{p:Pg}(hO:cK p)(f:FuncId):bp (ai p f) fun n=>ca p n f:=by
 intro args h;refine mU (fun n m hnm hne=>oc hO hnm f args h hne) ?_;unfold ai;by_cases hx:∃n,ca p n f args h≠.fail
 ·left;simp only[dif_pos hx];exact⟨_,Ih hx,rfl⟩
 ·right;simp only[dif_neg hx];exact⟨fun n=>IA fun h=>hx ⟨n,h⟩,trivial⟩
def kP.uniq{α:Type}{a a':R α}{b:Nat->R α}(h:kP a b)(g:kP a' fun n=>b (n+1)):a=a':=by
 by_cases ha:a= .fail
 ·by_cases ha':a'= .fail
  ·rw[ha,ha']
  ·obtain⟨N,hN⟩:=g.1 ha';have h1:=hN N (Ga _)
   (try dsimp only at h1)
   exact (h.2 (N+1) (by rw[h1];exact ha')).symm.trans h1
 ·obtain⟨N,hN⟩:=h.1 ha;have h1:=hN (N+1) (by omega);have h2:=g.2 N
  (try dsimp only at h2)
  exact h1.symm.trans (h2 (by rw[h1];exact ha))
def lg{p:Pg}(hO:cK p)(f:FuncId)(args:List AV):ai p f args=eX p (ai p) au f args:=by
 funext h;have h1:=gK hO f args h;have h2:=mY hO (fun f=>gK hO f) pD Ba (fun n=>og n) f args h;exact h1.uniq h2
def pm[Dr]{P:Program}{p:Pg}(G:GoodPg P p)(hO:cK p):bD P p.own (ai p):=by
 intro f args h S β w vs hr hg hw hh hv;obtain⟨N,hN⟩:=(gK hO f args h).1 hr;have h1:=hN N (Ga _)
 (try dsimp only at h1)
 rw[<- h1]at hr |-;exact iT G N f args h S β w vs hr hg hw hh hv
def vP{p:Pg}(hO:cK p){n:Nat}{f:FuncId}{args:List AV}{h:Hp}{r:R AV}(hr:ca p n f args h=r)(hne:r≠.fail):ai p f args h=r:=by
 have:=(gK hO f args h).2 n (by(try dsimp only);rw[hr];exact hne)
 (try dsimp only at this)
 rw[<- this,hr]
end Go.Av
namespace Go.Av
section
variable {ρ:Type}
theorem cB{F:(List AV->M ρ)->List AV->M ρ}(hF:jQ F)(vs:List AV):au F vs=F (au F) vs:=by
 funext h;exact (d8 hF vs h).uniq (hF _ _ (d8 hF) vs h)
theorem aN{c:AV}{x y:M ρ}{xs ys:Nat->M ρ}(hx:bV x xs)(hy:bV y ys):bV (aF c x y) fun n=>aF c (xs n) (ys n):=by
 unfold aF;cases c with
 |bool b=>cases b<;>first|exact hx|exact hy
 |_=>exact bu _
end
end Go.Av
namespace Go.Av
def aX(m:M AV):M AV:=fun h=>match m []with
 |.ok r h'=>.ok (gO 6 h' r) h
 |.pan v h'=>.pan (gO 6 h' v) h
 |.fail=>.fail
def aD{p:Pg}(hO:cK p){f:FuncId}{fn:Func}{a:Ann}(h1:p.other f=none)(h2:p.funcs f=some (fn,a))(h3:a.iso=true)(args:List AV):
  ai p f args=aX (bN (p.cx (ai p) fn.ntmps a) au fn (p.own f) (cU aB args)):=by
 rw[lg hO];unfold eX;rw[h1];simp only;rw[h2];simp only[h3,F9];rfl
def iv{p:Pg}(hO:cK p){f:FuncId}{fn:Func}{a:Ann}(h1:p.other f=none)(h2:p.funcs f=some (fn,a))(h3:a.iso=false)(args:List AV):
  ai p f args=bN (p.cx (ai p) fn.ntmps a) au fn (p.own f) args:=by
 rw[lg hO];unfold eX;rw[h1];simp only;rw[h2];simp only[h3,Gd]
def gn{p:Pg}(hO:cK p){f:FuncId}{E:(FuncId->List AV->M AV)->List AV->M AV}(h1:p.other f=some E)(args:List AV):ai p f args=E (ai p) args:=by
 rw[lg hO];unfold eX;rw[h1]
def gp(T:TT)(t:TypeId):(FuncId->List AV->M AV)->List AV->M AV:=fun _ args=>match args with
 |[.sl es]=>aj (ew T t (.sl []) (.sl es))
 |_=>c7
def eZ(T:TT)(t:TypeId):(FuncId->List AV->M AV)->List AV->M AV:=fun _ args=>match args with
 |[.sl es]=>appH T t true (.sl []) (.sl es)
 |_=>c7
def xr(t:TypeId)(k:IntKind)(zero:AV):R AV->R AV
 |.ok v h'=>bif bo 4 v then .ok (.tup [.agg (ae v),.int k 0]) h' else .fail
 |.pan (.iface t' (.int k' n)) h'=>bif Nat.beq t' t&&decide (k'=k)then .ok (.tup [zero,.int k n]) h' else .fail
 |_=>.fail
def sx(t:TypeId)(k:IntKind)(zero:AV):(FuncId->List AV->M AV)->List AV->M AV:=fun call args=>match args with
 |[f]=>fun h=>xr t k zero (bJ call f [] h)
 |_=>c7
def qw{m:M AV}{ms:Nat->M AV}(p:R AV->R AV)(hp:p .fail= .fail)(h:bV m ms):bV (fun x=>p (m x)) fun n=>fun x=>p (ms n x):=by
 intro x;obtain⟨h1,h2⟩:=h x;constructor
 ·intro hne;obtain⟨N,hN⟩:=h1 (fun hh=>hne (by simp only[hh,hp]));exact⟨N,fun n hn=>Gb p (hN n hn)⟩
 ·intro n hne;exact Gb p (h2 n (fun hh=>hne (by have:=Gb p hh;simpa [hp]using this)))
def ri(T:TT)(t:TypeId)(call:FuncId->List AV->M AV)(calls:Nat->FuncId->List AV->M AV):bp (gp T t call) fun n=>gp T t (calls n):=bp.const _
def rf(T:TT)(t:TypeId)(call:FuncId->List AV->M AV)(calls:Nat->FuncId->List AV->M AV):bp (eZ T t call) fun n=>eZ T t (calls n):=bp.const _
def xq(t:TypeId)(k:IntKind)(zero:AV)(call:FuncId->List AV->M AV)(calls:Nat->FuncId->List AV->M AV)(hc:∀f,bp (call f) fun n=>calls n f):bp (sx t k zero call) fun n=>sx t k zero (calls n):=by
 have hv:∀f,bV (bJ call f []) fun n=>bJ (calls n) f []:=by
  intro f;unfold bJ;split
  ·exact hc _ _
  ·exact bu _
 intro args;cases args with
 |nil=>exact bu _
 |cons f r=>
  cases r with
  |nil=>exact qw (xr t k zero) rfl (hv f)
  |cons _ _=>exact bu _
def cf{α:Type}{b:Bool}{x:α}{o:Option α}{y:α}(h:(bif b then some x else o)=some y):x=y\/o=some y:=by
 cases b with
 |true=>exact .inl (by simpa using h)
 |false=>exact .inr h
def tX(T:TT)(t:TypeId)(call:FuncId->List AV->M AV)(args:List AV):qV (eZ T t call args):=by
 unfold eZ;split
 ·rename_i y;intro h v h' hh;unfold appH at hh;split at hh
  ·cases hh
  ·split at hh
   ·split at hh
    ·cases hh
    ·split at hh
     ·cases hh
     ·rename_i bs _;revert hh;generalize (_&&_:Bool)=b1;cases b1 with
      |false=>intro hh;cases hh
      | true=>
       simp only[F9];cases bs.isEmpty with
       |true=>intro hh;cases hh;exact⟨[],by simp⟩
       |false=>
        simp only[Gd];generalize decide (_<=140737488355328)=b2;cases b2 with
        |false=>intro hh;cases hh
        |true=>intro hh;cases hh;exact⟨_,rfl⟩
   ·cases hh
 ·intro h v h' hh;cases hh
end Go.Av
namespace Go.Av
variable [Dr]
open Go.RowKit
section
variable {S:ap} {β:List aZ} {h:Hp} {w w':World}
omit [Dr]in
theorem a7.below(hh:a7 S β w h){S':ap}(hb:∀b,b<w.heap.size->w'.heap[b]? = w.heap[b]? /\∀o,S' b o=S b o)(hle:S.le S'):a7 S' β w' h:=by
 obtain⟨hlen,ω,hr⟩:=hh;exact⟨hlen,ω,hr.rows hle (cq.refl β) hlen fun l cs hl _=>.inl ⟨hl,fun b hlt ho=>⟨ho,(hb b hlt).1,fun o h=>by rw[(hb b hlt).2];exact h⟩⟩⟩
theorem rN(hw:Wf S w)(hh:a7 S β w h)(hb:Below w.heap.size w w')(hd:Dr.on->w.drawn<=w'.drawn){S':ap}(hS:∀b,b<w.heap.size->∀o,S' b o=S b o)(hnew:∀b o v,w.heap.size<=b->S' b o=some v->w'.cell? ⟨b,o,none⟩=some v):
  Left (a8 β h) S β w S' β w' h:=by
 have hle:S.le S':=fun b o v hv=>by rw[hS b (hw.lt hv)];exact hv
 refine⟨hle,cq.refl β,fun b o v hv=>?_,⟨hb.size,hb.os,hb.output,hb.tape,hd⟩,fun b hlt _=>⟨hb.block b hlt,hS b hlt⟩,hh.below (fun b hlt=>⟨hb.block b hlt,hS b hlt⟩) hle,fun b hb=>.inl hb⟩;rcases Gp b w.heap.size with hlt|hge
 ·rw[hS b hlt]at hv;rw[cell_of_heap (hb.block b hlt)];exact hw b o v hv
 ·exact hnew b o v hge hv
theorem ci(hw:Wf S w)(hh:a7 S β w h)(hb:Below w.heap.size w w')(hd:Dr.on->w.drawn<=w'.drawn){r:AV}{v:Value}(hv:VR S β r v):bS none S β h w (.ok r h) (.returned v) w':=
 ⟨S,β,v,rfl,hv,rN hw hh hb hd (fun _ _ _=>rfl) (fun b o v hge hv=>by have:=hw.lt hv;omega),fun sz hsz=>by cases hsz⟩
end
end Go.Av
namespace Go.Av
variable [Dr]
def ff:(FuncId->List AV->M AV)->List AV->M AV:=fun _ args=>match args with
 |[.str s,.str t]=>aj (bif decide (s.length<4294967281)then some (.bool (Lib.contains s t))else none)
 |_=>c7
def pF:AV->Option (List UInt8×Int×List AV)
 |.agg [.str n,.int .i64 k,.sl fs]=>some (n,k,fs)
 |_=>none
def dL:List AV->Option (List (List UInt8×Int×List AV))
 |[]=>some []
 |x:: r=>match pF x,dL r with
  |some z,some l=>some (z:: l)
  |_,_=>none
def bY{α:Type}(p:α->Bool):List α->Option α
 |[]=>none
 |z:: r=>match bY p r with
  |some y=>some y
  |none=>bif p z then some z else none
def rS(l:List (List UInt8×Int×List AV))(name:List UInt8):AV:=match bY (fun z=>z.1== name) l with
 |some z=>.tup [.agg [.int .i64 z.2.1,.sl z.2.2],.bool true]
 |none=>.tup [.agg [.int .i64 0,.sl []],.bool false]
def gT:(FuncId->List AV->M AV)->List AV->M AV:=fun _ args=>match args with
 |[.sl es,.str name]=>(match dL es with
  |some l=>aj (bif decide (l.length<=1000000000)then some (rS l name)else none)
  |none=>c7)
 |_=>c7
omit [Dr]in
theorem mF{α:Type}(p:α->Bool)(l:List α):bY p l=l.reverse.find? p:=by
 induction l with
 |nil=>rfl
 |cons z r ih=>
  simp only[bY,ih,List.reverse_cons,List.find?_append];cases r.reverse.find? p with
  |some y=>rfl
  |none=>cases h:p z<;>simp[h]
end Go.Av
namespace Go.Av
variable [Dr]
open Go.RowKit
def tZ:Nat->Nat->List UInt8
 |0,_=>[]
 |f+1,u=>bif decide (u<10)then[UInt8.ofNat (48+u)]else tZ f (u / 10)++[UInt8.ofNat (48+u % 10)]
omit [Dr]in
theorem nX:∀(f u:Nat),u<10 ^ (f+1)->tZ (f+1) u=Lib.decDigits u
 | f,u,h=>by
  rw[Lib.decDigits];rw[show tZ (f+1) u=bif decide (u<10)then[UInt8.ofNat (48+u)]else tZ f (u / 10)++[UInt8.ofNat (48+u % 10)]from rfl];by_cases h10:u<10
  ·rw[dif_pos h10,GX h10];rfl
  ·rw[dif_neg h10,Hb h10];cases f with
   |zero=>omega
   |succ f=>rw[nX f (u / 10) (by rw[Nat.pow_succ]at h;omega)];rfl
def wC(n:Int):List UInt8:=bif decide (n<0)then 45:: tZ 20 n.natAbs else tZ 20 n.toNat
omit [Dr]in
theorem wD{n:Int}(h0:-9223372036854775808<=n)(h1:n<=9223372036854775807):wC n=Lib.itoa n:=by
 unfold wC Lib.itoa;by_cases h:n<0
 ·rw[GX h,Gg h];simp only[F9];rw[nX 19 n.natAbs (by omega)]
 ·rw[Hb h,if_neg h];simp only[Gd];rw[nX 19 n.toNat (by omega)]
def sY:(FuncId->List AV->M AV)->List AV->M AV:=fun _ args=>match args with
 |[.int .i64 n]=>aj (bif decide (-9223372036854775808<=n)&&decide (n<=9223372036854775807)then some (.str (wC n))else none)
 |_=>c7
def sK(t:TypeId)(s:List UInt8):AV:=match Lib.atoiAll s with
 |.ok v=>.tup [.int .i64 v,.nili]
 |.range=>.tup [.int .i64 (Lib.atoiSat s),.iface t .any]
 |_=>.tup [.int .i64 0,.iface t .any]
def sJ(t:TypeId):(FuncId->List AV->M AV)->List AV->M AV:=fun _ args=>match args with
 |[.str s]=>aj (bif decide (s.length<=281474976710656)then some (sK t s)else none)
 |_=>c7
end Go.Av
namespace Go.Av
variable [Dr]
omit [Dr]in
theorem a7.grow{S:ap}{β:List aZ}{w w':World}{h:Hp}(hh:a7 S β w h)(hb:∀b,b<w.heap.size->w'.heap[b]? = w.heap[b]?):a7 S β w' h:=by
 obtain⟨hlen,ω,hr⟩:=hh;exact⟨hlen,ω,hr.rows (ap.le_refl S) (cq.refl β) hlen fun l cs hl _=>.inl ⟨hl,fun b hb' ho=>⟨ho,hb b hb',fun o h=>h⟩⟩⟩
omit [Dr]in
theorem a7.low{S:ap}{β:List aZ}{w:World}{h:Hp}(hh:a7 S β w h){b:Nat}(hb:a8 β h b):b<w.heap.size:=by
 obtain⟨_,ω,hr⟩:=hh;obtain⟨l,cs,n,h1,h2,h3⟩:=hb;obtain⟨b',x,k1,k2,_⟩:=hr.own h1 h2;rw[h3]at k1;cases k1;exact k2
omit [Dr]in
theorem Wf.grow{S:ap}{w w':World}(hw:Wf S w)(hb:∀b,b<w.heap.size->w'.heap[b]? = w.heap[b]?):Wf S w':=
 fun b o v hv=>by rw[cell_of_heap (hb b (hw.lt hv))];exact hw b o v hv
theorem nq{S S':ap}{β β':List aZ}{w w2 w' w'':World}{h h':Hp}(hg:Gro w w2)(hold:∀b,b<w.heap.size->w2.heap[b]? = w.heap[b]?)(L:Left (a8 β h) S β w2 S' β' w' h')(hg':Gro w' w'')(hsame:∀b,¬(w.heap.size<=b/\b<w2.heap.size)->w''.heap[b]? = w'.heap[b]?)(hw:Wf S w)(hh:a7 S β w h):Left (a8 β h) S β w S' β' w'' h':=by
 have hs:=hg.size;refine⟨L.le,L.ext,fun b o v hv=>?_,(hg.trans L.gro).trans hg',fun b hb hE=>?_,?_,fun b hb=>?_⟩
 ·by_cases hb:w.heap.size<=b/\b<w2.heap.size
  ·have hE:¬a8 β h b:=fun ho=>by have:=hh.low ho;omega
   have:=(L.keep b hb.2 hE).2 o
   rw[this,hw.none hb.1]at hv;cases hv
  ·rw[cell_of_heap (hsame b hb)];exact L.wf b o v hv
 ·have h1:=L.keep b (by omega) hE;exact⟨by rw[hsame b (by omega),h1.1,hold b hb],h1.2⟩
 ·obtain⟨hlen,ω,hr⟩:=L.heap;refine⟨hlen,ω,hr.rowsA (ap.le_refl S') (cq.refl β') hlen fun l cs hl hne=>.inl ⟨hl,fun b _ ⟨n,h1⟩ h3=>⟨h3,hsame b fun hb=>?_,fun o h=>h⟩⟩⟩;rcases L.owned b ⟨l,cs,_,hl,hne,h1⟩with ho|ho
  ·have:=hh.low ho;omega
  ·omega
 ·rcases L.owned b hb with ho|ho
  ·exact .inl ho
  ·exact .inr (by omega)
theorem Gro.setCell(w:World)(a:Addr)(v:Value):Gro w (w.setCell a v):=⟨by simp,rfl,rfl,rfl,fun _=>Ga _⟩
omit [Dr]in
theorem aG{w:World}{a:Addr}{v:Value}{b:Nat}(h:b≠a.block):(w.setCell a v).heap[b]? = w.heap[b]?:=by
 simp only[World.setCell,Array.getElem?_modify];rw[if_neg (fun e=>h e.symm)]
end Go.Av
namespace Go.Av
variable [Dr]
omit [Dr]in
theorem gt(β:List aZ)(q:aZ):cq β (β++[q]):=fun l b hb=>by
 have:l<β.length:=by
  rcases Gp l β.length with h|h
  ·exact h
  ·rw[Gi h]at hb;simp at hb
 rw[Gc this];exact hb
omit [Dr]in
theorem gR{β:List aZ}{h:Hp}(hlen:β.length=h.length){q:aZ}{cs:List AV}{b:Nat}(H:a8 (β++[q]) (h++[cs]) b):a8 β h b\/b=q.1:=by
 obtain⟨l,ds,n,h1,h2,h3⟩:=H;rcases Gp l h.length with hlt|hge
 ·rw[Gc hlt]at h1;rw[Gc (by omega)]at h3;exact .inl ⟨l,ds,n,h1,h2,h3⟩
 ·rw[Gn (by omega)]at h3;rcases GN (l-β.length)with h0|h0
  ·rw[h0]at h3;simp only[Gw,F7]at h3;subst h3;exact .inr rfl
  ·rw[Gi (by simp;omega)]at h3;simp at h3
omit [Dr]in
theorem FY{S:ap}{β:List aZ}{w w':World}{h:Hp}(hh:a7 S β w h)(hw:Wf S w)(hold:∀b,b<w.heap.size->w'.heap[b]? = w.heap[b]?){b:Nat}{x:Array Value}{t:TypeId}(hb:w.heap.size<=b)(hrow:w'.heap[b]? = some (.cells x t (0,0))){cs:List AV}(hcs:aP S β cs (x.toList.take cs.length))(htag:∀t',¬b7 t' cs):a7 S (β++[(b,x.size)]) w' (h++[cs]):=by
 obtain⟨hlen,ω,hr⟩:=hh;have hext:=gt β (b,x.size);refine⟨by simp[hlen],fun k=>if k=b then .heap h.length else ω k,?_⟩;refine hr.rows (ap.le_refl S) hext hlen fun l cs' hl hne=>?_;rcases Gp l h.length with hlt|hge
 ·rw[Gc hlt]at hl;exact .inl ⟨hl,fun k hk ho=>⟨by rw[if_neg (by omega)];exact ho,hold k hk,fun o h=>h⟩⟩
 ·rw[Gn hge]at hl;have hlz:l=h.length:=by
   rcases GN (l-h.length)with h0|h0
   ·omega
   ·rw[Gi (by simp;omega)]at hl;simp at hl
  subst hlz;simp only[Hq,Gw,F7]at hl;subst hl;exact .inr ⟨b,x,by rw[<- hlen];simp,⟨t,hrow⟩,by rw[Gg rfl],hcs.mono (ap.le_refl S) hext,fun o=>hw.none hb o,fun t' ht'=>absurd ht' (htag t')⟩
theorem Left.trans{E:Nat->Prop}{S S1 S2:ap}{β β1 β2:List aZ}{w w1 w2:World}{h1 h2:Hp}(L1:Left E S β w S1 β1 w1 h1)(L2:Left (a8 β1 h1) S1 β1 w1 S2 β2 w2 h2):Left E S β w S2 β2 w2 h2:=by
 have hs:=L1.size;refine⟨fun b o v hv=>L2.le b o v (L1.le b o v hv),cq.trans L1.ext L2.ext,L2.wf,L1.gro.trans L2.gro,fun b hb hE=>?_,L2.heap,fun b hb=>?_⟩
 ·have a1:=L1.keep b hb hE;have hno:¬a8 β1 h1 b:=fun ho=>by
   rcases L1.owned b ho with h|h
   ·exact hE h
   ·omega
  have a2:=L2.keep b (by omega) hno;exact⟨a2.1.trans a1.1,fun o=>(a2.2 o).trans (a1.2 o)⟩
 ·rcases L2.owned b hb with h|h
  ·exact L1.owned b h
  ·exact .inr (by omega)
theorem Left.store{E:Nat->Prop}{S S1:ap}{β β1:List aZ}{w w1 w2:World}{h1:Hp}(L:Left E S β w S1 β1 w1 h1)(hg:Gro w1 w2)(B:Nat->Prop)(hB:∀b,B b->w.heap.size<=b/\¬a8 β1 h1 b/\∀o,S1 b o=none)(hsame:∀b,¬B b->w2.heap[b]? = w1.heap[b]?):Left E S β w S1 β1 w2 h1:=by
 refine⟨L.le,L.ext,fun b o v hv=>?_,L.gro.trans hg,fun b hb hE=>?_,?_,L.owned⟩
 ·by_cases hb:B b
  ·rw[(hB b hb).2.2 o]at hv;cases hv
  ·rw[cell_of_heap (hsame b hb)];exact L.wf b o v hv
 ·have a:=L.keep b hb hE;exact⟨(hsame b fun hb'=>by have:=(hB b hb').1;omega).trans a.1,a.2⟩
 ·obtain⟨hlen,ω,hr⟩:=L.heap;exact⟨hlen,ω,hr.rowsA (ap.le_refl S1) (cq.refl β1) hlen fun l cs hl hne=>.inl ⟨hl,fun b _ ⟨n,k1⟩ k3=>⟨k3,hsame b fun hb=>(hB b hb).2.1 ⟨l,cs,n,hl,hne,k1⟩,fun o h=>h⟩⟩⟩
theorem np{S S':ap}{β β':List aZ}{w w2 w':World}{h h':Hp}{q:aZ}{cs:List AV}(hw:Wf S w)(hh:a7 S β w h)(hg:Gro w w2)(hold:∀b,b<w.heap.size->w2.heap[b]? = w.heap[b]?)(hq:w.heap.size<=q.1)(L:Left (a8 (β++[q]) (h++[cs])) S (β++[q]) w2 S' β' w' h'):Left (a8 β h) S β w S' β' w' h':=by
 have hs:=hg.size;refine⟨L.le,cq.trans (gt β q) L.ext,L.wf,hg.trans L.gro,fun b hb hE=>?_,L.heap,fun b hb=>?_⟩
 ·have hno:¬a8 (β++[q]) (h++[cs]) b:=fun ho=>by
   rcases gR hh.1 ho with h|h
   ·exact hE h
   ·omega
  have a:=L.keep b (by omega) hno;exact⟨a.1.trans (hold b hb),a.2⟩
 ·rcases L.owned b hb with ho|ho
  ·rcases gR hh.1 ho with h|h
   ·exact .inl h
   ·exact .inr (by omega)
  ·exact .inr (by omega)
end Go.Av
namespace Go.Av.Ap
abbrev bO:=List UInt8
inductive Val where
 |mk (kind n:Int) (names:List bO) (values:List Val)
instance:Inhabited Val:=⟨.mk 0 0 [] []⟩
inductive Exp where
 |mk (op n:Int) (s m:bO) (names:List bO) (args:List Exp)
instance:Inhabited Exp:=⟨.mk 0 0 [] [] [] []⟩
inductive Ty where
 |mk (kind:Int) (fields:List (bO×Ty))
instance:Inhabited Ty:=⟨.mk 0 []⟩
abbrev bv:=bO×Ty
structure Fun where
 name:bO
 pub:Bool
 params:List bv
 result:Ty
 effects:Int
 body:Exp
 deriving Inhabited
structure Mod where
 name:bO
 uses:List bO
 vars:List bv
 init:List Exp
 funcs:List Fun
 moves:Bool
 old:List bv
 forward:List Exp
 back:List Exp
 deriving Inhabited
def Val.kind:Val->Int|.mk k _ _ _=>k
def Val.n:Val->Int|.mk _ n _ _=>n
def Val.names:Val->List bO|.mk _ _ ns _=>ns
def Val.values:Val->List Val|.mk _ _ _ vs=>vs
def Exp.op:Exp->Int|.mk o _ _ _ _ _=>o
def Exp.n:Exp->Int|.mk _ n _ _ _ _=>n
def Exp.s:Exp->bO|.mk _ _ s _ _ _=>s
def Exp.m:Exp->bO|.mk _ _ _ m _ _=>m
def Exp.names:Exp->List bO|.mk _ _ _ _ ns _=>ns
def Exp.args:Exp->List Exp|.mk _ _ _ _ _ es=>es
def Ty.kind:Ty->Int|.mk k _=>k
def Ty.fields:Ty->List bv|.mk _ fs=>fs
@[simp] theorem F6(a b c d):(Val.mk a b c d).kind=a:=rfl
@[simp] theorem Val.n_mk(a b c d):(Val.mk a b c d).n=b:=rfl
@[simp] theorem F5(a b c d):(Val.mk a b c d).names=c:=rfl
@[simp] theorem F0(a b c d):(Val.mk a b c d).values=d:=rfl
def strs(l:List bO):AV:=.sl (l.map .str)
mutual
def Val.av:Val->AV
 |.mk k n ns vs=>.agg [.int .i64 k,.int .i64 n,strs ns,.sl (fU vs)]
def fU:List Val->List AV
 |[]=>[]
 |v:: vs=>v.av:: fU vs
end
mutual
def Exp.cells:Exp->List AV
 |.mk o n s m ns es=>[.int .i64 o,.int .i64 n,.str s,.str m,strs ns,.sl (em es)]
def em:List Exp->List AV
 |[]=>[]
 |e:: es=>.agg e.cells:: em es
end
def Exp.av(e:Exp):AV:=.agg e.cells
mutual
def Ty.cells:Ty->List AV
 |.mk k fs=>[.int .i64 k,.sl (dl fs)]
def dl:List (bO×Ty)->List AV
 |[]=>[]
 |f:: fs=>bX f:: dl fs
def bX:bO×Ty->AV
 |(n,t)=>.agg (.str n:: t.cells)
end
def Ty.av(t:Ty):AV:=.agg t.cells
def Fun.av(f:Fun):AV:=.agg ([.str f.name,.bool f.pub,.sl (dl f.params)]++f.result.cells++[.int .i64 f.effects]++f.body.cells)
def lx(l:List Fun):AV:=.sl (l.map Fun.av)
def Mod.av(m:Mod):AV:=.agg [.str m.name,strs m.uses,.sl (dl m.vars),.sl (em m.init),lx m.funcs,.bool m.moves,.sl (dl m.old),.sl (em m.forward),.sl (em m.back)]
def vals(l:List Val):AV:=.sl (fU l)
def f7(l:List Exp):AV:=.sl (em l)
def be(l:List bv):AV:=.sl (dl l)
def yQ(l:List Mod):AV:=.sl (l.map Mod.av)
def ints(l:List Int):AV:=.sl (l.map (.int .i64))
structure Vars where
 module:bO
 values:List Val
 deriving Inhabited
structure Deed where
 effect:Int
 arg:Int
 answer:Int
 deriving DecidableEq,Inhabited
structure Call where
 module:bO
 func:bO
 args:List Val
 deriving Inhabited
def Vars.av(v:Vars):AV:=.agg [.str v.module,vals v.values]
def Deed.av(d:Deed):AV:=.agg [.int .i64 d.effect,.int .i64 d.arg,.int .i64 d.answer]
def Call.av(c:Call):AV:=.agg [.str c.module,.str c.func,vals c.args]
def mn(l:List Vars):AV:=.sl (l.map Vars.av)
def deeds(l:List Deed):AV:=.sl (l.map Deed.av)
def calls(l:List Call):AV:=.sl (l.map Call.av)
structure Out where
 err:Int
 value:Val
 deeds:List Deed
 calls:List Call
 state:List Vars
def Out.av(o:Out):AV:=.agg [.int .i64 o.err,.int .i64 o.value.kind,.int .i64 o.value.n,strs o.value.names,vals o.value.values,Ap.deeds o.deeds,Ap.calls o.calls,mn o.state]
theorem eS:(l:List Val)->fU l=l.map Val.av
 |[]=>rfl
 |v:: l=>by simp[fU,eS l]
theorem iA:(l:List Exp)->em l=l.map Exp.av
 |[]=>rfl
 |v:: l=>by simp[em,iA l,Exp.av]
theorem dm:(l:List bv)->dl l=l.map bX
 |[]=>rfl
 |v:: l=>by simp[dl,dm l]
def Val.av_eq(v:Val):v.av= .agg [.int .i64 v.kind,.int .i64 v.n,strs v.names,vals v.values]:=by cases v;rfl
def Exp.cells_eq(e:Exp):e.cells=[.int .i64 e.op,.int .i64 e.n,.str e.s,.str e.m,strs e.names,f7 e.args]:=by cases e;rfl
def Ty.cells_eq(t:Ty):t.cells=[.int .i64 t.kind,be t.fields]:=by cases t;simp[Ty.cells,be,Ty.kind,Ty.fields]
def dB(f:bv):bX f= .agg [.str f.1,.int .i64 f.2.kind,be f.2.fields]:=by obtain⟨n,t⟩:=f;simp[bX,Ty.cells_eq]
@[simp] theorem kX(v:Val):ae v.av=[.int .i64 v.kind,.int .i64 v.n,strs v.names,vals v.values]:=by rw[v.av_eq];rfl
@[simp] theorem kR(e:Exp):ae e.av=[.int .i64 e.op,.int .i64 e.n,.str e.s,.str e.m,strs e.names,f7 e.args]:=by rw[Exp.av,e.cells_eq];rfl
@[simp] theorem kS(f:bv):ae (bX f)=[.str f.1,.int .i64 f.2.kind,be f.2.fields]:=by rw[dB];rfl
@[simp] theorem gH(t:Ty):ae t.av=[.int .i64 t.kind,be t.fields]:=by rw[Ty.av,t.cells_eq];rfl
@[simp] theorem kT(f:Fun):ae f.av=[.str f.name,.bool f.pub,be f.params,.int .i64 f.result.kind,be f.result.fields,.int .i64 f.effects,.int .i64 f.body.op,.int .i64 f.body.n,.str f.body.s,.str f.body.m,strs f.body.names,f7 f.body.args]:=by
 simp[Fun.av,ae,Ty.cells_eq,Exp.cells_eq,be]
@[simp] theorem kU(m:Mod):ae m.av=[.str m.name,strs m.uses,be m.vars,f7 m.init,lx m.funcs,.bool m.moves,be m.old,f7 m.forward,f7 m.back]:=rfl
@[simp] theorem pM(v:Val):AV.agg [.int .i64 v.kind,.int .i64 v.n,strs v.names,vals v.values]=v.av:=(v.av_eq).symm
@[simp] theorem pG(e:Exp):AV.agg [.int .i64 e.op,.int .i64 e.n,.str e.s,.str e.m,strs e.names,f7 e.args]=e.av:=by rw[Exp.av,e.cells_eq]
@[simp] theorem sU(t:Ty):AV.agg [.int .i64 t.kind,be t.fields]=t.av:=by rw[Ty.av,t.cells_eq]
@[simp] theorem pH(f:bv):AV.agg [.str f.1,.int .i64 f.2.kind,be f.2.fields]=bX f:=(dB f).symm
@[simp] theorem pI(f:Fun):AV.agg [.str f.name,.bool f.pub,be f.params,.int .i64 f.result.kind,be f.result.fields,.int .i64 f.effects,.int .i64 f.body.op,.int .i64 f.body.n,.str f.body.s,.str f.body.m,strs f.body.names,f7 f.body.args]=f.av:=by
 simp[Fun.av,Ty.cells_eq,Exp.cells_eq,be]
@[simp] theorem pJ(m:Mod):AV.agg [.str m.name,strs m.uses,be m.vars,f7 m.init,lx m.funcs,.bool m.moves,be m.old,f7 m.forward,f7 m.back]=m.av:=rfl
theorem cZ{α:Type}(g:Nat->Nat->Nat->Nat->Bool->AV)(f:α->AV)(h:∀x,cl g (f x)=f x):(l:List α)->cU g (l.map f)=l.map f
 |[]=>rfl
 |x:: l=>by simp[cU,h x,cZ g f h l]
@[simp] theorem Ez(g:Nat->Nat->Nat->Nat->Bool->AV)(l:List bO):cl g (strs l)=strs l:=by
 simp[strs,cl,cZ g AV.str (fun _=>rfl) l]
@[simp] theorem Ex(g:Nat->Nat->Nat->Nat->Bool->AV)(l:List Int):cl g (ints l)=ints l:=by
 simp[ints,cl,cZ g (AV.int .i64) (fun _=>rfl) l]
mutual
theorem Val.cl_av(g:Nat->Nat->Nat->Nat->Bool->AV):(v:Val)->cl g v.av=v.av
 |.mk k n ns vs=>by simp[Val.av,cl,cU,oR g vs]
theorem oR(g:Nat->Nat->Nat->Nat->Bool->AV):(l:List Val)->cU g (fU l)=fU l
 |[]=>rfl
 |v:: l=>by simp[fU,cU,Val.cl_av g v,oR g l]
end
mutual
theorem Exp.cl_cells(g:Nat->Nat->Nat->Nat->Bool->AV):(e:Exp)->cU g e.cells=e.cells
 |.mk o n s m ns es=>by simp[Exp.cells,cl,cU,kH g es]
theorem kH(g:Nat->Nat->Nat->Nat->Bool->AV):(l:List Exp)->cU g (em l)=em l
 |[]=>rfl
 |e:: l=>by simp[em,cU,cl,Exp.cl_cells g e,kH g l]
end
mutual
theorem Ty.cl_cells(g:Nat->Nat->Nat->Nat->Bool->AV):(t:Ty)->cU g t.cells=t.cells
 |.mk k fs=>by simp[Ty.cells,cl,cU,iX g fs]
theorem iX(g:Nat->Nat->Nat->Nat->Bool->AV):(l:List (bO×Ty))->cU g (dl l)=dl l
 |[]=>rfl
 |f:: l=>by simp[dl,cU,wk g f,iX g l]
theorem wk(g:Nat->Nat->Nat->Nat->Bool->AV):(f:bO×Ty)->cl g (bX f)=bX f
 |(n,t)=>by simp[bX,cl,cU,Ty.cl_cells g t]
end
@[simp] theorem vS(g:Nat->Nat->Nat->Nat->Bool->AV)(v:Val):cl g v.av=v.av:=v.cl_av g
@[simp] theorem yk(g:Nat->Nat->Nat->Nat->Bool->AV)(l:List Val):cl g (vals l)=vals l:=by simp[vals,cl,oR]
@[simp] theorem A2(g:Nat->Nat->Nat->Nat->Bool->AV)(e:Exp):cl g e.av=e.av:=by simp[Exp.av,cl,Exp.cl_cells]
@[simp] theorem Ew(g:Nat->Nat->Nat->Nat->Bool->AV)(l:List Exp):cl g (f7 l)=f7 l:=by simp[f7,cl,kH]
@[simp] theorem jY(g:Nat->Nat->Nat->Nat->Bool->AV)(t:Ty):cl g t.av=t.av:=by simp[Ty.av,cl,Ty.cl_cells]
@[simp] theorem Fa(g:Nat->Nat->Nat->Nat->Bool->AV)(f:bv):cl g (bX f)=bX f:=wk g f
@[simp] theorem yf(g:Nat->Nat->Nat->Nat->Bool->AV)(l:List bv):cl g (be l)=be l:=by simp[be,cl,iX]
theorem li(g:Nat->Nat->Nat->Nat->Bool->AV):(a b:List AV)->cU g (a++b)=cU g a++cU g b
 |[],b=>rfl
 |x:: a,b=>by simp[cU,li g a b]
@[simp] theorem vQ(g:Nat->Nat->Nat->Nat->Bool->AV)(f:Fun):cl g f.av=f.av:=by
 simp[Fun.av,cl,cU,li,iX,Ty.cl_cells,Exp.cl_cells]
@[simp] theorem yg(g:Nat->Nat->Nat->Nat->Bool->AV)(l:List Fun):cl g (lx l)=lx l:=by simp[lx,cl,cZ g Fun.av (vQ g)]
@[simp] theorem A3(g:Nat->Nat->Nat->Nat->Bool->AV)(m:Mod):cl g m.av=m.av:=by
 simp[Mod.av,cl,cU,iX,kH,yg]
@[simp] theorem Ey(g:Nat->Nat->Nat->Nat->Bool->AV)(l:List Mod):cl g (yQ l)=yQ l:=by simp[yQ,cl,cZ g Mod.av (A3 g)]
@[simp] theorem Fb(g:Nat->Nat->Nat->Nat->Bool->AV)(k:IntKind)(n:Int):cl g (.int k n)= .int k n:=rfl
@[simp] theorem Eu(g:Nat->Nat->Nat->Nat->Bool->AV)(b:Bool):cl g (.bool b)= .bool b:=rfl
@[simp] theorem A5(g:Nat->Nat->Nat->Nat->Bool->AV)(s:bO):cl g (.str s)= .str s:=rfl
@[simp] theorem yl(g:Nat->Nat->Nat->Nat->Bool->AV)(v:Vars):cl g v.av=v.av:=by simp[Vars.av,cl,cU]
@[simp] theorem ye(g:Nat->Nat->Nat->Nat->Bool->AV)(v:Deed):cl g v.av=v.av:=by simp[Deed.av,cl,cU]
@[simp] theorem yd(g:Nat->Nat->Nat->Nat->Bool->AV)(v:Call):cl g v.av=v.av:=by simp[Call.av,cl,cU]
@[simp] theorem Dh(g:Nat->Nat->Nat->Nat->Bool->AV)(l:List Vars):cl g (mn l)=mn l:=by simp[mn,cl,cZ g Vars.av (yl g)]
@[simp] theorem De(g:Nat->Nat->Nat->Nat->Bool->AV)(l:List Deed):cl g (deeds l)=deeds l:=by simp[deeds,cl,cZ g Deed.av (ye g)]
@[simp] theorem Dd(g:Nat->Nat->Nat->Nat->Bool->AV)(l:List Call):cl g (calls l)=calls l:=by simp[calls,cl,cZ g Call.av (yd g)]
@[simp] theorem Fc(g:Nat->Nat->Nat->Nat->Bool->AV)(o:Out):cl g o.av=o.av:=by simp[Out.av,cl,cU]
@[simp] theorem jU(v:Vars):ae v.av=[.str v.module,vals v.values]:=rfl
@[simp] theorem jT(v:Deed):ae v.av=[.int .i64 v.effect,.int .i64 v.arg,.int .i64 v.answer]:=rfl
@[simp] theorem jS(v:Call):ae v.av=[.str v.module,.str v.func,vals v.args]:=rfl
@[simp] theorem kV(o:Out):ae o.av=[.int .i64 o.err,.int .i64 o.value.kind,.int .i64 o.value.n,strs o.value.names,vals o.value.values,deeds o.deeds,calls o.calls,mn o.state]:=rfl
@[simp] theorem m8(v:Vars):AV.agg [.str v.module,vals v.values]=v.av:=rfl
@[simp] theorem m7(v:Deed):AV.agg [.int .i64 v.effect,.int .i64 v.arg,.int .i64 v.answer]=v.av:=rfl
@[simp] theorem m6(v:Call):AV.agg [.str v.module,.str v.func,vals v.args]=v.av:=rfl
@[simp] theorem pK(o:Out):AV.agg [.int .i64 o.err,.int .i64 o.value.kind,.int .i64 o.value.n,strs o.value.names,vals o.value.values,deeds o.deeds,calls o.calls,mn o.state]=o.av:=rfl
@[simp] theorem Cm(v:Vars):bP v.av=some 2:=rfl
@[simp] theorem Ck(v:Deed):bP v.av=some 3:=rfl
@[simp] theorem Cj(v:Call):bP v.av=some 3:=rfl
@[simp] theorem D7(v:Out):bP v.av=some 8:=rfl
@[simp] theorem nA(v:Vars):bo 2 v.av=true:=by simp[bo,aE,vals]
@[simp] theorem nz(v:Deed):bo 3 v.av=true:=by simp[bo,aE]
@[simp] theorem ny(v:Call):bo 3 v.av=true:=by simp[bo,aE,vals]
@[simp] theorem qp(v:Out):bo 8 v.av=true:=by simp[bo,aE,vals,strs,deeds,calls,mn]
def Clean(a:AV):Prop:=∀g,cl g a=a
def Clean.frz{a:AV}(h:Clean a)(d:Nat)(hp:Hp):gO d hp a=a:=by
 cases d with
 |zero=>exact h _
 |succ d=>exact h _
def bF{a:AV}(h:Clean a):aX (aw a)=aw a:=by
 funext hp;simp only[aX,aw,h.frz]
@[simp] theorem ni(b:Bool):aX (aw (.bool b))=aw (.bool b):=bF fun _=>rfl
@[simp] theorem gz(k:IntKind)(n:Int):aX (aw (.int k n))=aw (.int k n):=bF fun _=>rfl
@[simp] theorem DI(s:bO):aX (aw (.str s))=aw (.str s):=bF fun _=>rfl
@[simp] theorem DJ(v:Val):aX (aw v.av)=aw v.av:=bF fun g=>vS g v
@[simp] theorem B6(v:List Val):aX (aw (vals v))=aw (vals v):=bF fun g=>yk g v
@[simp] theorem DD(v:Exp):aX (aw v.av)=aw v.av:=bF fun g=>A2 g v
@[simp] theorem DF(v:Fun):aX (aw v.av)=aw v.av:=bF fun g=>vQ g v
@[simp] theorem D9(v:Val):bP v.av=some 4:=by rw[v.av_eq];rfl
@[simp] theorem D3(e:Exp):bP e.av=some 6:=by rw[Exp.av,e.cells_eq];rfl
@[simp] theorem D4(f:bv):bP (bX f)=some 3:=by rw[dB];rfl
@[simp] theorem EB(t:Ty):bP t.av=some 2:=by rw[Ty.av,t.cells_eq];rfl
@[simp] theorem D5(f:Fun):bP f.av=some 12:=by simp[Fun.av,bP,Ty.cells_eq,Exp.cells_eq]
@[simp] theorem D6(m:Mod):bP m.av=some 9:=rfl
@[simp] theorem lX(v:Val):bo 4 v.av=true:=by simp[bo,aE,strs,vals]
@[simp] theorem lS(e:Exp):bo 6 e.av=true:=by simp[bo,aE,strs,f7]
@[simp] theorem lT(f:bv):bo 3 (bX f)=true:=by simp[bo,aE,be]
@[simp] theorem lU(f:Fun):bo 12 f.av=true:=by simp[bo,aE,be,strs,f7]
@[simp] theorem lV(m:Mod):bo 9 m.av=true:=by simp[bo,aE,be,strs,f7,lx]
@[simp] theorem wP(s:bO):bo 1 (.str s)=true:=rfl
@[simp] theorem wN(k:IntKind)(n:Int):bo 1 (.int k n)=true:=rfl
def cC{α:Type}{sz:Nat}{f:α->AV}(h:∀x,bo sz (f x)=true)(l:List α):b6 sz (l.map f)=true:=by simp[b6,h]
@[simp] theorem Cg(l:List bO):b6 1 (l.map AV.str)=true:=cC wP l
@[simp] theorem Cc(l:List Int):b6 1 (l.map (AV.int .i64))=true:=cC (wN .i64) l
@[simp] theorem Ch(l:List Val):b6 4 (fU l)=true:=by rw[eS];exact cC lX l
@[simp] theorem B9(l:List Exp):b6 6 (em l)=true:=by rw[iA];exact cC lS l
@[simp] theorem Ca(l:List bv):b6 3 (dl l)=true:=by rw[dm];exact cC lT l
@[simp] theorem Cb(l:List Fun):b6 12 (l.map Fun.av)=true:=cC lU l
@[simp] theorem Cd(l:List Mod):b6 9 (l.map Mod.av)=true:=cC lV l
def lC{T:TT}{t e:Nat}{ti ei:TI}(ht:T t=some ti)(hk:ti.kind= .slice e)(he:T e=some ei){α:Type}{f:α->AV}(hs:∀x,bP (f x)=some ei.size){l:List α}{i:Nat}{x:α}(h:l[i]? = some x):
  ay T t (.sl (l.map f)) (.int .i64 (i:Int))=some (.ip (ae (f x))):=by
 unfold ay;rw[ht];simp only[hk,he];rw[if_neg (by omega)];have:(l.map f)[(i:Int).toNat]? = some (f x):=by rw[G6,Hk,h];rfl
 rw[this];simp only;rw[Gg (hs x)]
def cV{T:TT}{t e:Nat}{ti ei:TI}(ht:T t=some ti)(hk:ti.kind= .slice e)(he:T e=some ei){α:Type}[Inhabited α]{f:α->AV}(hs:∀x,bP (f x)=some ei.size){l:List α}{n:Int}(h0:0<=n)(h:n<(l.length:Int)):
  ay T t (.sl (l.map f)) (.int .i64 n)=some (.ip (ae (f l[n.toNat]!))):=by
 have hlt:n.toNat<l.length:=by omega
 have:=lC ht hk he hs (l:=l) (i:=n.toNat) (x:=l[n.toNat]!) (by rw[List.getElem!_eq_getElem?_getD,Gm hlt];rfl)
 rw[show ((n.toNat:Nat):Int)=n by omega]at this;exact this
def vB{T:TT}{t e:Nat}{ti ei:TI}(ht:T t=some ti)(hk:ti.kind= .slice e)(he:T e=some ei){α:Type}{f:α->AV}(hs:∀x,bo ei.size (f x)=true){a b:List α}(h:(a.length+b.length)*ei.bytes<=140737488355328)(h0:0<ei.bytes):
  ew T t (.sl (a.map f)) (.sl (b.map f))=some (.sl ((a++b).map f)):=by
 unfold ew;rw[ht];simp only[hk,he,fW];rw[cC hs,cC hs];simp[h,h0,jl]
end Go.Av.Ap
namespace Go.Av
attribute [simp] aO aR vJ tR
@[simp] theorem aH{α:Type}(b:Bool)(x y:M α):aF (.bool b) x y=if b=true then x else y:=by cases b<;>rfl
def gv(b w:Bool)(y:AV):AV:=bif b== w then y else .tup []
@[simp] theorem Fz(y:AV):gv false false y=y:=rfl
@[simp] theorem FC(y:AV):gv true true y=y:=rfl
@[simp] theorem FA(y:AV):gv false true y= .tup []:=rfl
@[simp] theorem FB(y:AV):gv true false y= .tup []:=rfl
@[simp high] theorem yx(b w:Bool)(y:AV):ax (.bool b) w 1 (aw [y])=aw [gv b w y]:=by cases b<;>cases w<;>rfl
@[simp high] theorem B3(b w c w2:Bool)(y:AV):ax (gv b w (.bool c)) w2 1 (aw [y])=aw [gv b w (gv c w2 y)]:=by cases b<;>cases w<;>cases c<;>cases w2<;>rfl
@[simp high] theorem B4(b w c e:Bool):ax (.bool b) w 1 (af (aj (aV (gv b w (.bool c)) (.bool true) (gv b w (gv c false (.bool e))))) fun v=>aw [v])=aw [gv b w (.bool (c||e))]:=by
 cases b<;>cases w<;>cases c<;>rfl
@[simp high] theorem Bd(b w c e:Bool):ax (.bool b) w 1 (af (aj (aV (gv b w (.bool c)) (gv b w (gv c true (.bool e))) (.bool false))) fun v=>aw [v])=aw [gv b w (.bool (c&&e))]:=by
 cases b<;>cases w<;>cases c<;>rfl
@[simp high] theorem Ci(b c:Bool):aV (.bool b) (gv b true (.bool c)) (.bool false)=some (.bool (b&&c)):=by cases b<;>rfl
@[simp high] theorem DX(b c:Bool):aV (.bool b) (.bool true) (gv b false (.bool c))=some (.bool (b||c)):=by cases b<;>rfl
@[simp] theorem yy(w:Bool)(n:Nat)(m:M (List AV)):ax (.bool !w) w n m=aw (List.replicate n (.tup [])):=by cases w<;>rfl
@[simp] theorem bI(w:Bool)(n:Nat)(m:M (List AV)):ax (.bool w) w n m=m:=by cases w<;>rfl
@[simp] theorem eD(n:Nat)(m:M (List AV)):ax (.bool false) true n m=aw (List.replicate n (.tup [])):=rfl
@[simp] theorem fj(n:Nat)(m:M (List AV)):ax (.bool true) false n m=aw (List.replicate n (.tup [])):=rfl
@[simp] theorem eJ(w:Bool)(n:Nat)(m:M (List AV)):ax (.tup []) w n m=aw (List.replicate n (.tup [])):=rfl
@[simp] theorem cw(x y:AV):aV (.bool true) x y=some x:=rfl
@[simp] theorem cF(x y:AV):aV (.bool false) x y=some y:=rfl
@[simp] theorem bc(x:AV)(l:List AV):ah (x:: l) 0=x:=rfl
@[simp] theorem bj(x:AV)(l:List AV)(n:Nat):ah (x:: l) (n+1)=ah l n:=rfl
@[simp] theorem Bf{α:Type}(k:List AV->M α)(m:(List AV->M α)->M α):jn k m=m k:=rfl
@[simp] theorem Br{α:Type}(a:α):dy (aw a)=aw a:=rfl
@[simp] theorem zf(b:Bool):iq .not (.bool b)=some (.bool !b):=rfl
@[simp] theorem yt(l:List AV)(i:Nat):bh (.tup l) i=l[i]?:=rfl
@[simp] theorem zV:True:=trivial
@[simp] theorem Bp(l k:Nat):jb (.hp l k)=some (.hp l k):=rfl
@[simp] theorem Bq(cs:List AV):jb (.ip cs)=some (.ip cs):=rfl
@[simp] theorem Af(s:List UInt8):ae (.str s)=[.str s]:=rfl
@[simp] theorem Ad(k:IntKind)(n:Int):ae (.int k n)=[.int k n]:=rfl
@[simp] theorem Ac(cs:List AV):ae (.agg cs)=cs:=rfl
@[simp] theorem xU(T:TT)(t:Nat)(a b:Int):az T .add t (.int .i64 a) (.int .i64 b)=some (.int .i64 (IntKind.i64.wrap (a+b))):=rfl
@[simp] theorem Et(T:TT)(t:Nat)(a b:Int):az T .sub t (.int .i64 a) (.int .i64 b)=some (.int .i64 (IntKind.i64.wrap (a-b))):=rfl
@[simp] theorem Er(T:TT)(t:Nat)(a b:Int):az T .mul t (.int .i64 a) (.int .i64 b)=some (.int .i64 (IntKind.i64.wrap (a*b))):=rfl
@[simp] theorem xW(T:TT)(t:Nat)(a b:Int):az T .lss t (.int .i64 a) (.int .i64 b)=some (.bool (decide (a<b))):=rfl
@[simp] theorem Ep(T:TT)(t:Nat)(a b:Int):az T .leq t (.int .i64 a) (.int .i64 b)=some (.bool (decide (a<=b))):=rfl
@[simp] theorem Eo(T:TT)(t:Nat)(a b:Int):az T .gtr t (.int .i64 a) (.int .i64 b)=some (.bool (decide (b<a))):=rfl
@[simp] theorem En(T:TT)(t:Nat)(a b:Int):az T .geq t (.int .i64 a) (.int .i64 b)=some (.bool (decide (b<=a))):=rfl
@[simp] theorem xV(T:TT)(t:Nat)(a b:Int):az T .eql t (.int .i64 a) (.int .i64 b)=some (.bool (a== b)):=rfl
@[simp] theorem Es(T:TT)(t:Nat)(a b:Int):az T .neq t (.int .i64 a) (.int .i64 b)=some (.bool (a != b)):=rfl
@[simp] theorem EC(T:TT)(t:Nat)(a b:List UInt8):az T .eql t (.str a) (.str b)=some (.bool (a== b)):=rfl
@[simp] theorem EH(T:TT)(t:Nat)(a b:List UInt8):az T .neq t (.str a) (.str b)=some (.bool !(a== b)):=rfl
@[simp] theorem EG(T:TT)(t:Nat)(a b:List UInt8):az T .lss t (.str a) (.str b)=some (.bool (aC a b)):=rfl
@[simp] theorem ED(T:TT)(t:Nat)(a b:List UInt8):az T .geq t (.str a) (.str b)=some (.bool !(aC a b)):=rfl
@[simp] theorem bT{n:Nat}{x:AV}(h:bo n x=true):bn n x=aw (.agg (ae x)):=by
 unfold bn fG;rw[h];rfl
@[simp] theorem bz{n:Nat}{x:AV}(h:bo n x=true):aK n [] x=aw (.agg (ae x)):=by
 unfold aK fG;rw[h];rfl
@[simp] theorem B7(b:Bool)(x:AV):fZ b [x]=some x:=by simp[fZ]
@[simp] theorem B8(b:Bool)(a c:Int):fZ b [.int .i64 a,.int .i64 c]=some (.int .i64 (if b=true then max a c else min a c)):=by
 cases b
 ·simp only[fZ,wM,Gd];congr 2;simp only[Int.min_def];split<;>split<;>simp_all<;>omega
 ·simp only[fZ,wM,F9];congr 2;simp only[Int.max_def];split<;>split<;>simp_all<;>omega
def bR{x:Int}(h1:-9223372036854775808<=x)(h2:x<=9223372036854775807):IntKind.i64.wrap x=x:=IntWalk.i64_in _ ⟨h1,h2⟩
def xA{n:Nat}(h:n<=4611686018427387904):IntKind.i64.wrap (n:Int)=(n:Int):=IntWalk.i64_in _ (by omega)
def jP{n:Nat}(h:n<=4611686018427387904):IntKind.i64.wrap ((n:Int)+1)=((n+1:Nat):Int):=by
 rw[IntWalk.i64_in _ (by omega)];omega
def uM{n:Nat}(h:n<=4611686018427387904):IntKind.i64.wrap (((n+1:Nat):Int)-1)=(n:Int):=by
 rw[IntWalk.i64_in _ (by omega)];omega
namespace Ap
mutual
def Val.sz:Val->Nat
 |.mk _ _ ns vs=>1+ns.length+cN vs
def cN:List Val->Nat
 |[]=>0
 |v:: vs=>v.sz+cN vs
end
theorem mm:{l:List Val} ->{v:Val} ->v∈l->v.sz<=cN l
 |w:: l,v,h=>by
  simp only[cN];rcases Gt.1 h with rfl|h
  ·omega
  ·have:=mm h;omega
def Val.sz_pos(v:Val):1<=v.sz:=by cases v;simp[Val.sz];omega
theorem ml:(l:List Val)->l.length<=cN l
 |[]=>by simp
 |v:: l=>by have:=ml l;have:=v.sz_pos;simp only[cN,Gu];omega
def Val.sz_names(v:Val):v.names.length<=v.sz:=by cases v;simp[Val.sz,Val.names];omega
def Val.sz_values(v:Val):cN v.values<v.sz:=by cases v;simp[Val.sz,Val.values];omega
def Val.sz_len(v:Val):v.values.length<v.sz:=Nat.lt_of_le_of_lt (ml _) v.sz_values
def FS{v x:Val}(h:x∈v.values):x.sz<v.sz:=Nat.lt_of_le_of_lt (mm h) v.sz_values
end Ap
end Go.Av
namespace Go.Av
def bE{α:Type}(F:α->Bool):List α->Int->Int
 |[],_=>-1
 |x:: l,i=>if F x=true then i else bE F l (i+1)
theorem pS{α:Type}(F:α->Bool):(l:List α)->(i:Int)->0<=i->(0<=bE F l i↔l.any F=true)
 |[],i,_=>by simp[bE]
 |x:: l,i,h=>by
  simp only[bE];split
  ·rename_i hx;simp[hx,h]
  ·rename_i hx;rw[pS F l (i+1) (by omega)];simp[hx]
def nf{α:Type}(F:α->Bool)(l:List α):decide (0<=bE F l 0)=l.any F:=by
 have:=pS F l 0 (by omega)
 cases h:l.any F with
 |true=>simp[this.2 h]
 |false=>simp only[Hv];intro hh;rw[this.1 hh]at h;cases h
@[simp] theorem zW(a b:Nat):((a:Int)== (b:Int))=(a== b):=by rw[Hn];simp;omega
@[simp] theorem yS(a:Nat):((a:Int)== 0)=(a== 0):=by rw[Hn];simp
@[simp] theorem zX(a b:Nat):((a:Int) != (b:Int))=(a != b):=by rw[Hn];simp;omega
end Go.Av
namespace Go.Av
open Ap
@[simp high] theorem A1(x:Val):bn 4 (Val.av x)=aw (Val.av x):=by rw[bT (lX x),kX,pM]
@[simp high] theorem yb(x:Val):aK 4 [] (Val.av x)=aw (Val.av x):=by rw[bz (lX x),kX,pM]
@[simp high] theorem AU(x:Exp):bn 6 (Exp.av x)=aw (Exp.av x):=by rw[bT (lS x),kR,pG]
@[simp high] theorem xZ(x:Exp):aK 6 [] (Exp.av x)=aw (Exp.av x):=by rw[bz (lS x),kR,pG]
@[simp high] theorem AW(x:bv):bn 3 (bX x)=aw (bX x):=by rw[bT (lT x),kS,pH]
@[simp high] theorem x6(x:bv):aK 3 [] (bX x)=aw (bX x):=by rw[bz (lT x),kS,pH]
@[simp high] theorem AX(x:Fun):bn 12 (Fun.av x)=aw (Fun.av x):=by rw[bT (lU x),kT,pI]
@[simp high] theorem x7(x:Fun):aK 12 [] (Fun.av x)=aw (Fun.av x):=by rw[bz (lU x),kT,pI]
@[simp high] theorem AY(x:Mod):bn 9 (Mod.av x)=aw (Mod.av x):=by rw[bT (lV x),kU,pJ]
@[simp high] theorem x8(x:Mod):aK 9 [] (Mod.av x)=aw (Mod.av x):=by rw[bz (lV x),kU,pJ]
@[simp high] theorem zN(x:Vars):bn 2 (Vars.av x)=aw (Vars.av x):=by rw[bT (nA x),jU,m8]
@[simp high] theorem xE(x:Vars):aK 2 [] (Vars.av x)=aw (Vars.av x):=by rw[bz (nA x),jU,m8]
@[simp high] theorem zM(x:Deed):bn 3 (Deed.av x)=aw (Deed.av x):=by rw[bT (nz x),jT,m7]
@[simp high] theorem xD(x:Deed):aK 3 [] (Deed.av x)=aw (Deed.av x):=by rw[bz (nz x),jT,m7]
@[simp high] theorem zL(x:Ap.Call):bn 3 (Ap.Call.av x)=aw (Ap.Call.av x):=by rw[bT (ny x),jS,m6]
@[simp high] theorem xC(x:Ap.Call):aK 3 [] (Ap.Call.av x)=aw (Ap.Call.av x):=by rw[bz (ny x),jS,m6]
@[simp high] theorem AZ(x:Ap.Out):bn 8 (Ap.Out.av x)=aw (Ap.Out.av x):=by rw[bT (qp x),kV,pK]
@[simp high] theorem x9(x:Ap.Out):aK 8 [] (Ap.Out.av x)=aw (Ap.Out.av x):=by rw[bz (qp x),kV,pK]
@[simp] theorem kK(t:Ty):bo 2 t.av=true:=by simp[bo,aE,be]
@[simp high] theorem BZ(x:Ty):bn 2 (Ty.av x)=aw (Ty.av x):=by rw[bT (kK x),gH,sU]
@[simp high] theorem zO(x:Ty):aK 2 [] (Ty.av x)=aw (Ty.av x):=by rw[bz (kK x),gH,sU]
end Go.Av
namespace Go.Av
@[simp] theorem xF(c:Prop)[Decidable c](a b:Bool):(if c then(aw (.bool a):M AV)else aw (.bool b))=aw (.bool (if c then a else b)):=by split<;>rfl
@[simp] theorem yD(c:Prop)[Decidable c](a b:Int):(if c then(aw (.int .i64 a):M AV)else aw (.int .i64 b))=aw (.int .i64 (if c then a else b)):=by split<;>rfl
def yu{F:(List AV->M AV)->List AV->M AV}(hF:∀vs,au F vs=F (au F) vs)(st:Nat->List AV)(n:Nat)(G:Nat->Bool)(hend:F (au F) (st n)=aw (.bool true))(hstep:∀k,k<n->F (au F) (st k)=if G k=true then au F (st (k+1))else aw (.bool false)):
  ∀k,k<=n->au F (st k)=aw (.bool ((List.range' k (n-k)).all G)):=by
 have key:∀r k,n-k=r->k<=n->au F (st k)=aw (.bool ((List.range' k r).all G)):=by
  intro r
  induction r with
  |zero=>
   intro k hr hk;obtain rfl:k=n:=by omega
   rw[hF,hend];rfl
  |succ r ih=>
   intro k hr hk;rw[hF,hstep k (by omega),ih (k+1) (by omega) (by omega)];simp only[List.range'_succ,GO];cases G k<;>rfl
 exact fun k hk=>key (n-k) k rfl hk
def qW{α:Type}[Inhabited α](P:α->Bool)(l:List α):(List.range' 0 l.length).all (fun k=>P l[k]!)=l.all P:=by
 rw[Hn];simp only[Gk,List.mem_range'_1];constructor
 ·intro h x hx;obtain⟨i,hi,rfl⟩:=List.getElem_of_mem hx
  have:=h i ⟨Hi _,by omega⟩
  rwa [G1 l i hi]at this
 ·intro h k hk;have hk':k<l.length:=by omega
  rw[G1 l k hk'];exact h _ (GC hk')
def q6(s:List UInt8):Bool:=s.all fun b=>decide (b.toNat<128)
def gM(cs:List UInt8):List UInt8->Int->Int
 |[],_=>-1
 |b:: s,i=>if cs.contains b=true then i else gM cs s (i+1)
def gS:(FuncId->List AV->M AV)->List AV->M AV:=fun _ args=>match args with
 |[.str s,.str cs]=>aj (bif decide (s.length<4294967281)&&decide (cs.length<1000)&&q6 cs then some (.int .i64 (gM cs s 0))else none)
 |_=>c7
def strsOf:List AV->Option (List (List UInt8))
 |[]=>some []
 |.str s:: r=>(strsOf r).map (s:: ·)
 |_=>none
def lH(sep:List UInt8):List (List UInt8)->List UInt8
 |[]=>[]
 |[a]=>a
 |a:: b:: l=>a++(sep++lH sep (b:: l))
def sZ:(FuncId->List AV->M AV)->List AV->M AV:=fun _ args=>match args with
 |[.sl es,.str sep]=>aj (match strsOf es with
  |some l=>bif decide (l.length<=140737488355328)&&decide ((lH sep l).length<=140737488355328)then some (.str (lH sep l))else none
  |none=>none)
 |_=>c7
def gF(b:UInt8):Bool:=(decide (97<=b.toNat)&&decide (b.toNat<=122))||(decide (65<=b.toNat)&&decide (b.toNat<=90))||(decide (48<=b.toNat)&&decide (b.toNat<=57))||decide (b.toNat=95)
def l3(s:List UInt8):Bool:=!s.isEmpty&&s.all gF
def oG:(FuncId->List AV->M AV)->List AV->M AV:=fun _ args=>match args with
 |[.str s]=>aj (bif decide (s.length<4294967281)then some (.bool (l3 s))else none)
 |_=>c7
def sP:AV:=.tup [.agg [.int .i64 0,.int .i64 0,.sl [],.sl []],.int .i64 34]
def ej(ft:TypeId):R AV->R AV
 |.ok v h=>.ok v h
 |.pan (.iface t (.agg [])) h=>bif Nat.beq t ft then .ok sP []else .fail
 |.pan _ _=>.fail
 |.fail=>.fail
def lJ:M AV:=fun h=>match h[0]? with
 |some [AV.str s]=>.ok (.str s) h
 |_=>.fail
def yc(sz:Nat)(v:AV):M AV:=fun h=>bif bo sz v then .ok v h else .fail
def v6:AV->Option AV
 |.str s=>some (.bool s.isEmpty)
 |_=>none
def tz(ft:TypeId)(value has:FuncId)(call:FuncId->List AV->M AV)(t:AV):M AV:=
 af (call value [.hp 0 0,.int .i64 4]) fun v=>af (yc 4 v) fun _=>af lJ fun s=>af (aj (v6 s)) fun b=>
  aF b (af (call has [t,v]) fun r=>aF r (aw (.tup [.agg (ae v),.int .i64 0])) (dG (.iface ft (.agg [])))) (dG (.iface ft (.agg [])))
def nG(ft:TypeId)(value has:FuncId)(call:FuncId->List AV->M AV):List AV->M AV:=fun args h=>match args,h with
 |[t,.str s],[]=>bif bo 2 t then ej ft (tz ft value has call t [[AV.str s]])else .fail
 |_,_=>.fail
def nF(ft:TypeId)(value has:FuncId):(FuncId->List AV->M AV)->List AV->M AV:=fun call=>eM (nG ft value has call)
def bV.cond{b:AV}{x y:M AV}{xs ys:Nat->M AV}(hx:bV x xs)(hy:bV y ys):bV (aF b x y) fun n=>aF b (xs n) (ys n):=by
 unfold aF;split
 ·exact hx
 ·exact hy
 ·exact bu _
def uC(ft:TypeId)(value has:FuncId)(call:FuncId->List AV->M AV)(calls:Nat->FuncId->List AV->M AV)(hc:∀f,bp (call f) fun n=>calls n f):bp (nF ft value has call) fun n=>nF ft value has (calls n):=by
 have hI:bp (nG ft value has call) fun n=>nG ft value has (calls n):=by
  intro args h;rcases args with _|⟨t,_|⟨x,_|⟨y,r⟩⟩⟩
  ·exact bu (fun _=>.fail) h
  ·exact bu (fun _=>.fail) h
  ·have hB:bV (tz ft value has call t) fun n=>tz ft value has (calls n) t:=
    bV.bnd (hc value _) fun v=>bV.bnd (bu _) fun _=>bV.bnd (bu _) fun s=>bV.bnd (bu _) fun b=>bV.cond (bV.bnd (hc has _) fun r=>bV.cond (bu _) (bu _)) (bu _)
   cases x
   case str s=>
    cases h with
    |nil=>exact qw (fun r=>bif bo 2 t then ej ft r else .fail) (by cases bo 2 t<;>rfl) hB [[AV.str s]]
    |cons a b=>exact bu (fun _=>.fail) (a:: b)
   all_goals exact bu (fun _=>.fail) h
  ·cases x<;>exact bu (fun _=>.fail) h
 intro args h;obtain⟨h1,h2⟩:=hI (cU aB args) []
 (try dsimp only at h1 h2)
 refine⟨fun hne=>?_,fun n hne=>?_⟩
 ·obtain⟨N,hN⟩:=h1 (fun hf=>hne (by show eM _ _ _=_;unfold eM;rw[hf]));refine⟨N,fun n hn=>?_⟩;show eM _ _ _=eM _ _ _;unfold eM;rw[hN n hn]
 ·have:=h2 n (fun hf=>hne (by show eM _ _ _=_;unfold eM;rw[hf]))
  show eM _ _ _=eM _ _ _;unfold eM;rw[this]
end Go.Av
namespace Go.Av
open Go.RowKit Go.Sort Go.Proofs
section
variable [Dr]
end
section
variable {α:Type} [Inhabited α]
end
section
variable [Dr] {S:ap} {β:List aZ} {h:Hp} {w w':World}
end
theorem FZ{S:ap}{β:List aZ}:{ps qs:List AV} ->{vs:List Value} ->aP S β (ps++qs) vs->∃u v,vs=u++v/\aP S β ps u/\aP S β qs v
 |[],_,vs,h=>⟨[],vs,rfl,by simp[aP],h⟩
 |_:: ps,qs,vs,h=>by
  simp only[GJ,aP]at h;obtain⟨x,xs,rfl,h1,h2⟩:=h;obtain⟨u,v,rfl,h3,h4⟩:=FZ h2;exact⟨x:: u,v,rfl,by simp only[aP];exact⟨x,u,rfl,h1,h3⟩,h4⟩
section
variable [Dr] {α:Type} [Inhabited α] {P:Program}
end
end Go.Av
namespace Go.Av.Ap
open Go Go.Av
abbrev uT:=bO×bO
def qB(r:uT):AV:=.agg [.str r.1,.str r.2]
def qC(l:List uT):AV:=.sl (l.map qB)
def r9(l:List (List uT)):AV:=.sl (l.map qC)
@[simp] theorem Ae(r:uT):ae (qB r)=[.str r.1,.str r.2]:=rfl
@[simp] theorem Dt(r:uT):AV.agg [.str r.1,.str r.2]=qB r:=rfl
@[simp] theorem wO(r:uT):bo 2 (qB r)=true:=rfl
@[simp] theorem Ce(l:List uT):b6 2 (l.map qB)=true:=cC wO l
@[simp] theorem A4(g:Nat->Nat->Nat->Nat->Bool->AV)(r:uT):cl g (qB r)=qB r:=rfl
@[simp] theorem yh(g:Nat->Nat->Nat->Nat->Bool->AV)(l:List uT):cl g (qC l)=qC l:=by simp[qC,cl,cZ g qB (A4 g)]
@[simp] theorem Dg(g:Nat->Nat->Nat->Nat->Bool->AV)(l:List (List uT)):cl g (r9 l)=r9 l:=by simp[r9,cl,cZ g qC (yh g)]
section
variable {V:Type}
end
end Go.Av.Ap
namespace Go.Av.Ap
def uN(l:List Ty):AV:=.sl (l.map Ty.av)
structure Sig where
 name:bO
 params:List Ty
 result:Ty
 effects:Int
 deriving Inhabited
structure Face where
 module:bO
 funcs:List Sig
 deriving Inhabited
structure Vsn where
 major:Int
 minor:Int
 patch:Int
 deriving Inhabited,DecidableEq
def Sig.cells(s:Sig):List AV:=[.str s.name,uN s.params,.int .i64 s.result.kind,be s.result.fields,.int .i64 s.effects]
def Sig.av(s:Sig):AV:=.agg s.cells
def sigs(l:List Sig):AV:=.sl (l.map Sig.av)
def Face.cells(f:Face):List AV:=[.str f.module,sigs f.funcs]
def Face.av(f:Face):AV:=.agg f.cells
def wd(l:List Face):AV:=.sl (l.map Face.av)
def Vsn.av(v:Vsn):AV:=.agg [.int .i64 v.major,.int .i64 v.minor,.int .i64 v.patch]
@[simp] theorem kW(s:Sig):ae s.av=[.str s.name,uN s.params,.int .i64 s.result.kind,be s.result.fields,.int .i64 s.effects]:=rfl
@[simp] theorem zm(f:Face):ae f.av=[.str f.module,sigs f.funcs]:=rfl
@[simp] theorem Ag(v:Vsn):ae v.av=[.int .i64 v.major,.int .i64 v.minor,.int .i64 v.patch]:=rfl
@[simp] theorem pL(s:Sig):AV.agg [.str s.name,uN s.params,.int .i64 s.result.kind,be s.result.fields,.int .i64 s.effects]=s.av:=rfl
@[simp] theorem B1(f:Face):AV.agg [.str f.module,sigs f.funcs]=f.av:=rfl
@[simp] theorem Du(v:Vsn):AV.agg [.int .i64 v.major,.int .i64 v.minor,.int .i64 v.patch]=v.av:=rfl
@[simp] theorem kK(t:Ty):bo 2 t.av=true:=by simp[bo,aE,be]
@[simp] theorem DR(l:List Ty):b6 2 (l.map Ty.av)=true:=cC kK l
@[simp] theorem D8(s:Sig):bP s.av=some 5:=rfl
@[simp] theorem Cl(s:Face):bP s.av=some 2:=rfl
@[simp] theorem Ea(s:Vsn):bP s.av=some 3:=rfl
@[simp] theorem lW(s:Sig):bo 5 s.av=true:=by simp[bo,aE,be,uN]
@[simp] theorem ux(s:Face):bo 2 s.av=true:=by simp[bo,aE,sigs]
@[simp] theorem DO(s:Vsn):bo 3 s.av=true:=rfl
@[simp] theorem Cf(l:List Sig):b6 5 (l.map Sig.av)=true:=cC lW l
@[simp] theorem Bu(l:List Face):b6 2 (l.map Face.av)=true:=cC ux l
@[simp] theorem A6(g:Nat->Nat->Nat->Nat->Bool->AV)(l:List Ty):cl g (uN l)=uN l:=by simp[uN,cl,cZ g Ty.av (jY g)]
@[simp] theorem vR(g:Nat->Nat->Nat->Nat->Bool->AV)(s:Sig):cl g s.av=s.av:=by unfold Sig.av Sig.cells;simp only[cl,cU,A6,yf]
@[simp] theorem yj(g:Nat->Nat->Nat->Nat->Bool->AV)(l:List Sig):cl g (sigs l)=sigs l:=by simp[sigs,cl,cZ g Sig.av (vR g)]
@[simp] theorem sM(g:Nat->Nat->Nat->Nat->Bool->AV)(s:Face):cl g s.av=s.av:=by unfold Face.av Face.cells;simp only[cl,cU,yj]
@[simp] theorem Df(g:Nat->Nat->Nat->Nat->Bool->AV)(l:List Face):cl g (wd l)=wd l:=by simp[wd,cl,cZ g Face.av (sM g)]
@[simp] theorem Fe(g:Nat->Nat->Nat->Nat->Bool->AV)(s:Vsn):cl g s.av=s.av:=by unfold Vsn.av;simp only[cl,cU]
@[simp] theorem EA(v:Ty):aX (aw v.av)=aw v.av:=bF fun g=>jY g v
@[simp] theorem DG(v:Sig):aX (aw v.av)=aw v.av:=bF fun g=>vR g v
@[simp] theorem B5(v:Face):aX (aw v.av)=aw v.av:=bF fun g=>sM g v
end Go.Av.Ap
namespace Go.Av
def rK:(FuncId->List AV->M AV)->List AV->M AV:=fun _ args h=>match args with
 | [s,.int .i64 i,.hs lv 0 1 3 true]=>(match h[lv]? with
  |none=>.fail
  | some vx=>bif decide (3<=vx.length)&&(vx.take 3).all aE then(match s with
   |.hn=>bif decide (i=0)then .ok (.hs h.length 0 1 3 true) (h++[vx.take 3])else .fail
   |.hs l 0 n 3 true=>(match h[l]? with
    |none=>.fail
    | some cs=>bif decide (0<=i)&&decide (i<=n)&&decide (n<=1000)&&decide (0<n)&&decide (cs.length=3*n)&&cs.all aE&&!(Nat.beq l lv)then
      .ok (.hs h.length 0 (n+1) 3 true) (h.set l []++[cs.take (3*i.toNat)++vx.take 3++cs.drop (3*i.toNat)])else .fail)
   |_=>.fail)else .fail)
 |_=>.fail
variable [Dr]
omit [Dr]in
theorem a7.move{S:ap}{β:List aZ}{w w':World}{h:Hp}(hh:a7 S β w h)(hw:Wf S w){l:Nat}{cs:List AV}(hl:h[l]? = some cs)(hne:cs≠[]){bl nl:Nat}(hbl:β[l]? = some (bl,nl))(hold:∀k,k<w.heap.size->k≠bl->w'.heap[k]? = w.heap[k]?){b:Nat}(hb:b=bl\/w.heap.size<=b){x:Array Value}{t:TypeId}(hrow:w'.heap[b]? = some (.cells x t (0,0))){new:List AV}(hcs:aP S β new (x.toList.take new.length))(htag:∀t',¬b7 t' new):a7 S (β++[(b,x.size)]) w' (h.set l []++[new]):=by
 obtain⟨hlen,ω,hr⟩:=hh;have hext:=gt β (b,x.size);obtain⟨b0,n0,k1,k2,k3,k4⟩:=hr.own hl hne;rw[hbl]at k1;cases k1;have hnone:∀o,S b o=none:=fun o=>by
  rcases hb with rfl|hb
  ·exact k4 o
  ·exact hw.none hb o
 refine⟨by simp[hlen],fun k=>if k=b then .heap h.length else ω k,?_⟩;refine hr.rows (ap.le_refl S) hext hlen fun l' cs' hl' hne'=>?_;rcases Gp l' h.length with hlt|hge
 ·rw[Gc (by simpa using hlt)]at hl';have hll:l≠l':=fun hh=>by
   subst hh;rw[Ib (by simpa using hlt)]at hl';exact hne' (HY hl').symm
  rw[G7 hll]at hl';refine .inl ⟨hl',fun k hk ho=>?_⟩;have hkb:k≠bl:=fun hh=>by
   rw[hh,k3]at ho;exact hll (by cases ho;rfl)
  refine⟨?_,hold k hk hkb,fun o h=>h⟩;rw[if_neg (by rcases hb with rfl|hb<;>omega)];exact ho
 ·rw[Gn (by simpa using hge)]at hl';have hlz:l'=h.length:=by
   rcases GN (l'-h.length)with h0|h0
   ·omega
   ·rw[Gi (by simp;omega)]at hl';simp at hl'
  subst hlz;simp only[GZ,Hq,Gw,F7]at hl';subst hl';exact .inr ⟨b,x,by rw[<- hlen];simp,⟨t,hrow⟩,by rw[Gg rfl],hcs.mono (ap.le_refl S) hext,hnone,fun t' ht'=>absurd ht' (htag t')⟩
omit [Dr]in
theorem nc{β:List aZ}{h:Hp}(hlen:β.length=h.length){q:aZ}{l:Nat}{cs:List AV}{b:Nat}(H:a8 (β++[q]) (h.set l []++[cs]) b):a8 β h b\/b=q.1:=by
 rcases gR (by simpa using hlen) H with⟨l',ds,n,h1,h2,h3⟩|h
 ·left;by_cases hll:l=l'
  ·subst hll;rcases Gp l h.length with hlt|hge
   ·rw[Ib hlt]at h1;exact absurd (HY h1).symm h2
   ·rw[Gi (by simpa using hge)]at h1;cases h1
  ·rw[G7 hll]at h1;exact⟨l',ds,n,h1,h2,h3⟩
 ·exact .inr h
end Go.Av
namespace Go.Av
open Go.RowKit Go.Sort Go.Proofs
section
variable [Dr] {P:Program}
end
end Go.Av
namespace Go.Av.Sb
open Go Go.Shelf Go.RowKit Go.Lib Go.Proofs
variable {P:Program} {ρ:Ren}
theorem pq(n b0 b1 b2 b3:Nat)(h0:b0<256):(decodeN n b0 b1 b2 b3).1<55296\/(57343<(decodeN n b0 b1 b2 b3).1/\(decodeN n b0 b1 b2 b3).1<=1114111):=by
 unfold decodeN
 repeat' split
 all_goals (simp only;omega)
theorem rm(s:ByteArray)(i:Nat):Lib.validRune ((Utf8.decode s i).1:Int)=true:=by
 have h:=pq (s.size-i) (s.get! i).toNat (s.get! (i+1)).toNat (s.get! (i+2)).toNat (s.get! (i+3)).toNat (UInt8.toNat_lt _);rw[<- decode_at]at h;simp only[Lib.validRune,Ge];omega
theorem wv(s:ByteArray)(j:Nat)(h:j<s.size):s.get! j=s[j]'h:=by
 simp[ByteArray.get!,G1,h];rfl
theorem pr(s:ByteArray)(pos:Nat)(h:pos<s.size)(ha:128<=(s[pos]'h).toNat):∀k,k<(Utf8.decode s pos).2->pos+k<s.size/\128<=(s.get! (pos+k)).toNat:=by
 have h0:128<=(s.get! (pos+0)).toNat:=by rw[G4,wv s pos h];exact ha
 have hn:¬(s.get! (pos+0)).toNat<128:=by omega
 intro k hk;simp only[Utf8.decode,hn,GH]at hk;have one:k<1->pos+k<s.size/\128<=(s.get! (pos+k)).toNat:=fun h1=>by
  have:k=0:=by omega
  subst this;exact⟨h,h0⟩
 split at hk
 ·rename_i c;simp only[F8,Ge,GU]at c;split at hk
  ·match k,hk with
   |0,_=>exact⟨h,h0⟩
   |1,_=>exact⟨c.2.1,by omega⟩
  ·exact one hk
 ·split at hk
  ·rename_i c;simp only[F8,Ge,GU]at c;split at hk
   ·match k,hk with
    |0,_=>exact⟨h,h0⟩
    |1,_=>exact⟨c.1.2.1,by omega⟩
    |2,_=>exact⟨c.2.1,by omega⟩
   ·exact one hk
  ·split at hk
   ·rename_i c;simp only[F8,Ge,GU]at c;split at hk
    ·match k,hk with
     |0,_=>exact⟨h,h0⟩
     |1,_=>exact⟨c.1.1.2.1,by omega⟩
     |2,_=>exact⟨c.1.2.1,by omega⟩
     |3,_=>exact⟨c.2.1,by omega⟩
    ·exact one hk
   ·exact one hk
theorem indexByte_none{y:UInt8}:∀ {l:List UInt8},y ∉ l->Lib.indexByte l y= -1
 |[],_=>rfl
 |b:: l,h=>by
  rw[Gt,not_or]at h;have hb:(b== y)=false:=by simpa using fun e=>h.1 e.symm
  rw[Lib.indexByte,hb,indexByte_none h.2];rfl
set_option maxHeartbeats 4000000 in
set_option maxRecDepth 1000000 in
theorem lE(L:Lays.n152 P ρ)(s:ByteArray)(r:Int)(w:World)(hr:128<=r)(hv:Lib.validRune r=true)(_hs:s.size<4294967281)(hascii:∀(j:Nat) b,s.data.toList[j]? = some b->b.toNat<128):
  Calls P (ρ.f 152) #[.string s,.int .i32 r] w fun e w'=>e= .returned (.int .i64 (-1))/\Below w.heap.size w w':=by
 have HA:Aside (∀(j:Nat) b,s.data.toList[j]? = some b->b.toNat<128):=hascii;clear hascii;have mixed:=L.mixed;have t3:=L.t3;have a3:=L.a3;have z3:=L.z3;have v3:=L.v3;have t4:=L.t4;have a4:=L.a4;have z4:=L.z4;have v4:=L.v4;have t5:=L.t5;have a5:=L.a5;have z5:=L.z5;have v5:=L.v5;have t9:=L.t9;have a9:=L.a9;have z9:=L.z9;have v9:=L.v9;have t21:=L.t21;have a21:=L.a21;have z21:=L.z21;have v21:=L.v21;have e119:∀args w,(callFunc (ρ.f 119) args).run P w= .ok (.enter (ρ.f 119) args) w:=enters_of L.f119 (by kernel_rfl) rfl;have e137:∀args w,(callFunc (ρ.f 137) args).run P w= .ok (.enter (ρ.f 137) args) w:=enters_of L.f137 (by kernel_rfl) rfl;have hlo:¬r<128:=by omega
 by_cases he:r=65533
 ·subst he
  go_enter L.f152,Body.n152_ntmps ρ
  go_wp2
  go_loopg [5,6] s.size (fun g _ _ wx=>∃i:Nat,i+g=s.size/\wx=w.iter s i)
  case atStart=>exact⟨0,by omega,rfl⟩
  case round=>
   obtain⟨i,hig,rfl⟩:=hrel;cases gk with
   |zero=>
    obtain rfl:i=s.size:=by omega
    have hnx:=run_next_end (P:=P) w s s.size
    go_wp2
    go_ret
    exact⟨rfl,(Below.refl _ _).alloc (Ga _) _⟩
   |succ g=>
    have hi:i<s.size:=by omega
    obtain⟨x,hx⟩:∃x:UInt8,s[i]'hi=x:=⟨_,rfl⟩;have hxl:s.data.toList[i]? = some x:=by rw[<- hx];exact Lib.data_getElem? s i hi
    have hx128:x.toNat<128:=HA.out i x hxl;have hnx:=fun ty=>run_next_ascii (P:=P) w s i ty hi (by rw[hx];exact hx128);rw[hx]at hnx;clear hxl hx;have hne:¬((x.toNat:Int)=65533):=by omega
    go_wp2
    go_roundg g
    case measure=>omega
    case rel=>exact⟨i+1,by omega,rfl⟩
 ·have hvu:Utf8.valid r=true:=by
   simp only[Lib.validRune,Ge]at hv;simp only[Utf8.valid,G9,F8,Ge];omega
  obtain⟨n2,n4,hlast⟩:=encode_facts r hvu hr;obtain⟨rs,hrs⟩:∃rs,rs=Utf8.encode r:=⟨_,rfl⟩;rw[<- hrs]at n2 n4 hlast;have hVR:Calls P (ρ.f 119) #[.int .i32 r] w fun e w'=>e= .returned (.bool true)/\w'=w:=(Any.utf8_ValidRune { L with } r w).mono fun e w' h=>by
   have h1:=h.1;rw[show Lib.validRune r=true from hv]at h1;exact⟨h1,h.2⟩
  have hcv:∀w,(convert (ρ.t 21) (ρ.t 9) (.int .i32 r)).run P w= .ok (.string rs) w:=fun w=>by
   rw[hrs];exact run_convert_int_string w _ _ _ _ (by rw[t21];rfl) t9
  clear hrs;have h21:(P.underlying (ρ.t 21)).isSome=true:=by rw[t21];rfl
  go_enter L.f152,Body.n152_ntmps ρ
  go_wp2_with (go_at_fn (ρ.f 119);refine hVR.mono ?_;rintro e w' ⟨rfl,hw⟩;rw[hw])
  obtain⟨k,hk⟩:∃k:Nat,rs.size=k+1:=⟨rs.size-1,by omega⟩;have hkz:(rs.size:Int)-1=(k:Int):=by omega
  have hkl:k<rs.size:=by omega
  obtain⟨y,hy⟩:∃y:UInt8,rs[k]'hkl=y:=⟨_,rfl⟩;have hy128:128<=y.toNat:=by
   have:=hlast (by omega)
   have e:rs.size-1=k:=by omega
   simp only[e,hy]at this;exact this
  clear hlast;refine wp_scope_straight ?_
  go_wp2
  go_loopg [9,10,11,12] 1 (fun g s9 _ _ _ wx=>s9= .int .i64 (k:Int)/\wx=w)
  case atStart=>exact⟨rfl,rfl⟩
  case round=>
   obtain⟨rfl,rfl⟩:=hrel;by_cases hks:k<s.size
   ·obtain⟨x,hx⟩:∃x:UInt8,s[k]'hks=x:=⟨_,rfl⟩;have hxl:s.data.toList[k]? = some x:=by rw[<- hx];exact Lib.data_getElem? s k hks
    have hx128:x.toNat<128:=HA.out k x hxl;have hxy:¬((x.toNat:Int)=(y.toNat:Int)):=by omega
    have hkz2:(k:Int)<(s.size:Int):=by omega
    go_wp2
    refine wp_scope_straight ?_
    go_wp2_with (go_at_fn (ρ.f 137);refine (Any.strings_IndexByte { L with } _ _ _).mono ?_;rintro e w' ⟨rfl,hw⟩;rw[hw])
    have u9:=run_underlying L.t9;have hw1:IntKind.i64.wrap ((k:Int)+1)=(k:Int)+1:=by rw[IntKind.wrap_i64];omega
    have hk1:(k:Int)+1<=(s.size:Int):=by omega
    have hk0:(0:Int)<=(k:Int)+1:=by omega
    have htn:((k:Int)+1).toNat=k+1:=by omega
    have hxy':((x.toNat:Int) != (y.toNat:Int))=true:=bne_iff_ne.2 hxy
    go_region_o
    go_wp2
    go_region_with_o (refine (Any.strings_IndexByte { L with } _ _ _).mono ?_;rintro e w' ⟨rfl,rfl⟩)
    have hib:Lib.indexByte (List.take (s.size-(k+1)) (List.drop (k+1) s.data.toList)) y= -1:=indexByte_none fun hm=>by
     obtain⟨j,hj⟩:=List.mem_iff_getElem?.1 (Hh (Hg hm))
     have:=HA.out j y hj
     omega
    rw[hib]
    go_wp2
    dsimp only[Exit.noGoto,Exit.inBlock,Exit.then]
    go_ret
    exact⟨rfl,(Below.refl _ _).drew.drew⟩
   ·have hkz2:¬(k:Int)<(s.size:Int):=by omega
    go_wp2
    go_ret
    exact⟨rfl,Below.refl _ _⟩
theorem below_iterAt{B k:Nat}{a w:World}{s:ByteArray}{p:Nat}(h:Below B a w)(hk:B<=k):Below B a (w.iterAt k s p):=
 ⟨h.os,h.tape,h.output,by show a.heap.size<=(w.heap.setIfInBounds k _).size;rw[Array.size_setIfInBounds];exact h.size,fun j hj=>by
  rw[<- h.block j hj];show (w.heap.setIfInBounds k _)[j]? = _;rw[Hy];rw[if_neg (by omega)]⟩
theorem rX{s chars:List UInt8}{i d:Nat}(h:Lib.NoAny s chars i)(hs:∀k,k<d->∀b,s[i+k]? = some b->chars.contains b=false):Lib.NoAny s chars (i+d):=fun j b hj hb=>by
 by_cases hi:j<i
 ·exact h j b hi hb
 ·exact hs (j-i) (by omega) b (by rw[show i+(j-i)=j by omega];exact hb)
set_option maxHeartbeats 8000000 in
set_option maxRecDepth 1000000 in
theorem lD(L:Lays.n153 P ρ)(s chars:ByteArray)(w:World)(h2:2<=chars.size)(h8:s.size<=8)(hcs:chars.size<4294967281)(hascii:∀(j:Nat) b,chars.data.toList[j]? = some b->b.toNat<128):
  Calls P (ρ.f 153) #[.string s,.string chars] w fun e w'=>e= .returned (.int .i64 (Lib.indexAny s.data.toList chars.data.toList))/\Below w.heap.size w w':=by
 have HA:Aside (∀(j:Nat) b,chars.data.toList[j]? = some b->b.toNat<128):=hascii;clear hascii;have hemp:chars.toList.isEmpty=false:=by
  rw[Lib.toList_data];cases h:chars.data.toList with
  |nil=>have:=Lib.size_eq chars;rw[h,GM]at this;omega
  |cons _ _=>rfl
 have hn1:((chars.size:Int)== 1)=false:=Ho.2 (by omega);have h8z:decide ((8:Int)<(s.size:Int))=false:=Hb (by omega);have t3:=L.t3;have a3:=L.a3;have z3:=L.z3;have v3:=L.v3;have t4:=L.t4;have a4:=L.a4;have z4:=L.z4;have v4:=L.v4;have t5:=L.t5;have a5:=L.a5;have z5:=L.z5;have v5:=L.v5;have t9:=L.t9;have a9:=L.a9;have z9:=L.z9;have v9:=L.v9;have t21:=L.t21;have a21:=L.a21;have z21:=L.z21;have v21:=L.v21;have e152:∀args w,(callFunc (ρ.f 152) args).run P w= .ok (.enter (ρ.f 152) args) w:=enters_of L.f152 (by kernel_rfl) rfl;have e226:∀args w,(callFunc (ρ.f 226) args).run P w= .ok (.enter (ρ.f 226) args) w:=enters_of L.f226 (by kernel_rfl) rfl
 go_enter L.f153,Body.n153_ntmps ρ
 go_wp2_with (go_at_fn (ρ.f 226);refine (Any.strings_shouldUseASCIISet { L with } _ _).mono ?_;rintro e w' ⟨rfl,hw⟩;rw[hw,h8z])
 go_loopg [9,10] s.size (fun g _ _ wx=>∃i:Nat,i+g=s.size/\wx.heap[w.heap.size]? = some (.stringIter s i)/\Below w.heap.size w wx/\Lib.NoAny s.data.toList chars.data.toList i)
 case atStart=>exact⟨0,by omega,World.iter_heap w s 0,(Below.refl _ _).alloc (Ga _) _,Lib.NoAny.zero _ _⟩
 case round=>
  obtain⟨i,hig,hit,hbel,hno⟩:=hrel;have HN:Aside (Lib.NoAny s.data.toList chars.data.toList i):=hno;have HB:Aside (Below w.heap.size w wr):=hbel;have HI:Aside (wr.heap[w.heap.size]? = some (.stringIter s i)):=hit;clear hno hbel hit;by_cases hi:i<s.size
  ·obtain⟨x,hx⟩:∃x:UInt8,s[i]'hi=x:=⟨_,rfl⟩;have hxl:s.data.toList[i]? = some x:=by rw[<- hx];exact Lib.data_getElem? s i hi
   have Hx:Aside (s.data.toList[i]? = some x):=hxl;clear hxl;by_cases hx128:x.toNat<128
   ·have hnx:=fun ty=>run_next_ascii_at (P:=P) wr w.heap.size s i ty HI.out hi (by rw[hx];exact hx128);rw[hx]at hnx;clear hx;have hcon:=Lib.contains_iff_indexByte chars.data.toList x;have hback:((x.toNat:Int)).toNat.toUInt8=x:=by simp
    cases hin:chars.data.toList.contains x
    ·rw[hin]at hcon;have hlt:¬((0:Int)<=Lib.indexByte chars.data.toList x):=of_decide_eq_false hcon.symm;clear hcon
     go_wp2_with (go_at_fn (ρ.f 152);refine (Any.strings_IndexRune_ascii { L with } _ _ _ (by omega) (by omega)).mono ?_;rintro e w' ⟨rfl,hw⟩;rw[hw,hback])
     go_roundg (s.size-(i+1))
     case measure=>omega
     case rel=>exact⟨i+1,by omega,iterAt_heap _ _ _ _ _ HI.out,below_iterAt HB.out (Ga _),HN.out.succ Hx.out hin⟩
    ·rw[hin]at hcon;have hge:(0:Int)<=Lib.indexByte chars.data.toList x:=HD hcon.symm;clear hcon
     go_wp2_with (go_at_fn (ρ.f 152);refine (Any.strings_IndexRune_ascii { L with } _ _ _ (by omega) (by omega)).mono ?_;rintro e w' ⟨rfl,hw⟩;rw[hw,hback])
     go_ret
     exact⟨by rw[Lib.indexAny_hit HN.out Hx.out hin];rfl,below_iterAt HB.out (Ga _)⟩
   ·have hnx:=fun ty=>run_next_any_at (P:=P) wr w.heap.size s i ty HI.out hi;obtain⟨q1,q2⟩:=decode_high s i hi (by rw[hx];omega);have q3:=rm s i;have q4:=pr s i hi (by rw[hx];omega);generalize Utf8.decode s i=rd at hnx q1 q2 q3 q4;obtain⟨r,d⟩:=rd;dsimp only at hnx q1 q2 q3 q4;have hd:=(q4 (d-1) (by omega)).1;have Q4:Aside (∀k,k<d->i+k<s.size/\128<=(s.get! (i+k)).toNat):=q4;clear q4 hx;have hneg:¬((0:Int)<=-1):=by omega
    go_wp2_with (go_at_fn (ρ.f 152);refine (lE { L with } _ _ _ (by omega) q3 hcs HA.out).mono ?_;rintro e w' ⟨rfl,hw⟩)
    have hI2:=iterAt_heap wr w.heap.size s i (i+d) HI.out;have hlt:w.heap.size<(wr.iterAt w.heap.size s (i+d)).heap.size:=(GF.1 hI2).1
    go_roundg (s.size-(i+d))
    case measure=>omega
    case rel=>
     refine⟨i+d,by omega,(hw.block _ hlt).trans hI2,(below_iterAt HB.out (Ga _)).trans (hw.mono (Nat.le_of_lt hlt)),rX HN.out fun k hk b hb=>?_⟩;obtain⟨g1,g2⟩:=Q4.out k hk;have hbe:b=s.get! (i+k):=by
      rw[Lib.data_getElem? s (i+k) g1]at hb;cases hb;exact (wv s (i+k) g1).symm
     cases hc:chars.data.toList.contains b with
     |false=>rfl
     |true=>
      obtain⟨j,hj⟩:=List.mem_iff_getElem?.1 (List.contains_iff_mem.1 hc)
      have:=HA.out j b hj
      rw[hbe]at this;omega
  ·have hnx:=run_next_end_at (P:=P) wr w.heap.size s i (h:=hi) (hk:=HI.out)
   go_wp2
   go_ret
   exact⟨by rw[Lib.indexAny_none (by rw[<- Lib.size_eq,show s.size=i by omega];exact HN.out)];rfl,HB.out⟩
theorem om(L:Lays.n153 P ρ)(h116:(P.info? (ρ.t 116)).map (fun i=>(i.zero,i.size))=some (some (.agg (Array.replicate 256 (.bool false))),256))(s chars:ByteArray)(w:World)(hs:s.size<4294967281)(hcs:chars.size<4294967281)(hac:∀(j:Nat) b,chars.data.toList[j]? = some b->b.toNat<128):
  Calls P (ρ.f 153) #[.string s,.string chars] w fun e w'=>e= .returned (.int .i64 (Lib.indexAny s.data.toList chars.data.toList))/\Below w.heap.size w w':=by
 by_cases h0:chars.size=0
 ·exact (Any.strings_IndexAny_none L s chars w h0).mono fun e w' ⟨h1,h2⟩=>⟨h1,h2▸Below.refl _ _⟩
 by_cases h1:chars.size=1
 ·exact (Any.strings_IndexAny_one L s chars w h1 hac).mono fun e w' ⟨h1,h2⟩=>⟨h1,h2▸Below.refl _ _⟩
 by_cases h8:s.size<=8
 ·exact lD L s chars w (by omega) h8 hcs hac
 ·refine (Any.strings_IndexAny_long L (zero_of_info h116).1 (zero_of_info h116).2 s chars w (by omega) (by omega) hs hcs hac).mono fun e w' ⟨h1,h2⟩=>⟨h1,?_⟩;rw[h2];exact ((Below.refl _ _).alloc (Ga _) _).alloc (by simp) _
end Go.Av.Sb
namespace Go.Av
variable [Dr]
theorem jZ{P:Program}{cx:Cx}{own:Option Nat}(hT:TOK P cx.T)(hC:bD P cx.own cx.call)(hI:IsoCall cx){f:FuncId}{fn:Func}(hf:P.funcs[f]? = some fn)(hnt:cx.nt=fn.ntmps){E:List AV->Hp->R AV}(h0:∀h,E [] h= .ok (.sl []) h)(h1:∀e es h,bN cx (bU 0) fn own [.sl (e:: es)] h=E (e:: es) h)(h2:∀h,bN cx (bU 0) fn own [.hn] h= .ok (.sl []) h)(h3:∀l off h,bN cx (bU 0) fn own [.hs l off 0 1 false] h= .ok (.sl []) h){es:List AV}{h:Hp}{S:ap}{β:List aZ}{w:World}{vs:List Value}(hr:E es h≠.fail)(hg:kz S β h w)(hw:Wf S w)(hh:a7 S β w h)(hv:aP S β [.sl es] vs):Calls P f vs.toArray w (bS own S β h w (E es h))/\fn.body.isSome=true:=by
 cases es with
 |cons e es=>
  rw[<- h1]at hr |-;exact eG hT hC hI 0 hf hnt hr hg hw hh hv
 | nil=>
  rw[h0];simp only[aP]at hv;obtain⟨v,_,rfl,hv,rfl⟩:=hv;have hv0:=hv;simp only[VR]at hv;obtain⟨a,cap,rfl,hc,hn,hq⟩:=hv;cases a with
  |none=>
   have hcap:=hn rfl;subst hcap;have hv2:aP S β [.hn] [.slice none ([]:List AV).length 0]:=by simp[aP,VR]
   have:=eG (own:=own) hT hC hI 0 hf hnt (args:=[.hn]) (h:=h) (by rw[h2];simp) hg hw hh hv2
   rw[h2]at this;exact this
  | some q=>
   obtain⟨hs,_⟩:=hq q rfl;have hX:a7 S [(q.block,q.off+cap)] w [[]]:=⟨rfl,fun _=>.no,fun l cs hl hne=>by
    cases l with
    |zero=>simp at hl;exact absurd hl hne
    |succ l=>simp at hl⟩
   have hE:∀b,¬a8 [(q.block,q.off+cap)] [[]] b:=by
    rintro b ⟨l,cs,n,k1,k2,_⟩;cases l with
    |zero=>simp at k1;exact k2 k1
    |succ l=>simp at k1
   have hv2:aP S [(q.block,q.off+cap)] [.hs 0 q.off 0 1 false] [.slice (some q) ([]:List AV).length cap]:=by
    simp only[aP,VR];rcases GN cap with h0|h0
    ·subst h0;exact⟨_,_,rfl,.inr ⟨trivial,q,rfl⟩,rfl⟩
    ·have hq':q=⟨q.block,q.off,none⟩:=by
      have:=hs h0
      cases q;simp_all
     exact⟨_,_,rfl,.inl ⟨(q.block,q.off+cap),cap,rfl,(by show q.off+cap≠0;omega),by rw[<- hq'];rfl,Hi _,by simp⟩,rfl⟩
   have:=eG (own:=own) hT hC hI 0 hf hnt (args:=[.hs 0 q.off 0 1 false]) (h:=[[]]) (by rw[h3];simp) ⟨hg.1,fun b _=>hE b,hg.2.2⟩ hw hX hv2
   rw[h3]at this;refine⟨this.1.mono fun en w' hp=>?_,this.2⟩;obtain⟨S',β',v,k1,k2,k3,k4⟩:=hp;obtain⟨S2,j1,j2,j3⟩:=sX hw hh hE k3;exact⟨S2,β,v,k1,j2 (.sl []) v k2,j1,fun sz hsz=>j3 sz v (k4 sz hsz)⟩
end Go.Av
namespace Go.Av.Sw
open Go Go.Av
variable {P:Program}
theorem gZ(w:World)(dT sT ty elem:TypeId)(i:TypeInfo)(g o dLen dCap:Nat)(a:Addr)(sLen sCap:Nat)(cur:Array Value)(t:TypeId)(cs:List Value)(hu:P.underlying dT=some (.slice elem))(hi:P.info? elem=some i)(hg:w.heap[g]? = some (.cells cur t (0,0)))(hn:cs.length=Nat.min sLen dLen*i.size)(hsrc:∀j v,cs[j]? = some v->w.cell? (a.add j)=some v)(hfit:o+cs.length<=cur.size)(h1:∀v∈cs,v.oneCell'=true):
  (Builtin.copy_ #[dT,sT] ty #[.slice (some ⟨g,o,none⟩) dLen dCap,.slice (some a) sLen sCap]).run P w=
   .ok (goInt (Nat.min sLen dLen)) (w.setRow g (cur.toList.take o++cs++cur.toList.drop (o+cs.length)).toArray):=by
 have hl:=run_firstCells_some (P:=P) w i.size (Nat.min sLen dLen) a sLen sCap cs hn hsrc;have hst:=run_storeCells_at P g o t cs 0 cur w hg (by simpa using hfit) h1;simp only[G4]at hst;simp[Builtin.copy_,run_underlying hu,Builtin.lenOf,sizeOf,typeInfo,hi,hl,hst]
theorem ia(w:World)(t tx ty e:TypeId)(i:TypeInfo)(ht:P.underlying t=some (.slice e))(hi:P.info? e=some i)(b off sLen sCap:Nat)(x:Value)(n:Nat)(news:List Value)(hs:Src P i.size tx x n news w)(hroom:sLen+n<=sCap)(cur:Array Value)(te:TypeId)(hg:w.heap[b]? = some (.cells cur te (0,0)))(hfit:off+sLen*i.size+news.length<=cur.size):
  (Builtin.append_ #[t,tx] ty #[.slice (some ⟨b,off,none⟩) sLen sCap,x]).run P w= .ok (.slice (some ⟨b,off,none⟩) (sLen+n) sCap) (w.setRow b (cur.toList.take (off+sLen*i.size)++news++cur.toList.drop (off+sLen*i.size+news.length)).toArray):=by
 have hst:=run_storeCells_at P b (off+sLen*i.size) te news 0 cur w hg (by simpa using hfit) hs.one;simp only[G4]at hst;rcases hs.kind with⟨e',hk⟩|hk<;>simp[Builtin.append_,run_underlying ht,run_underlying hk,sizeOf,typeInfo,hi,hs.len,hroom,hs.cells,Addr.add_lit,hst]
theorem g7(w:World)(g:Nat)(new:Array Value)(cur:Array Value)(t:TypeId)(h:w.heap[g]? = some (.cells cur t (0,0))):(w.setRow g new).heap[g]? = some (.cells new t (0,0)):=setRow_heap w g cur new t (0,0) h
theorem eR(w:World)(g:Nat)(new:Array Value){k:Nat}(h:k≠g):(w.setRow g new).heap[k]? = w.heap[k]?:=by
 unfold World.setRow;simp[Array.getElem?_modify,Ne.symm h]
theorem setRow_size(w:World)(g:Nat)(new:Array Value):(w.setRow g new).heap.size=w.heap.size:=by simp[World.setRow]
end Go.Av.Sw
namespace Go.Av
variable [Dr]
open Go.RowKit Go.WideShapes Go.ChangeShapes
theorem Left.below{S S':ap}{β β':List aZ}{w w':World}{h':Hp}(L:Left (a8 [] []) S β w S' β' w' h'):Below w.heap.size w w':=
 ⟨L.gro.os,L.gro.tape,L.gro.out,L.gro.size,fun k hk=>(L.keep k hk (by rintro⟨l,_,_,h1,_⟩;simp at h1)).1⟩
def iM(W:World):ap:=fun b o=>W.cell? ⟨b,o,none⟩
omit [Dr]in
theorem xM(W:World):Wf (iM W) W:=fun _ _ _ h=>h
omit [Dr]in
theorem uh{W:World}(h:GOKw W):kz (iM W) [] [] W:=⟨h,fun b _ ho=>by obtain⟨l,_,_,h1,_⟩:=ho;simp at h1,ze h⟩
theorem un{P:Program}{p:Pg}(G:GoodPg P p)(hO:cK p){f:FuncId}{args:List AV}{vs:List Value}{W:World}(hg:GOKw W)(hv:aP (iM W) [] args vs)(ht:ai p f args []= .ok (.bool true) []):Calls P f vs.toArray W fun e W'=>e= .returned (.bool true)/\Below W.heap.size W W':=by
 have h:=(pm G hO f args [] (iM W) [] W vs (by rw[ht];simp) (uh hg) (xM W) ⟨rfl,fun _=>.no,fun l cs hl=>by simp at hl⟩ hv).1;rw[ht]at h;refine h.mono fun e W' hp=>?_;obtain⟨S',β',v,rfl,hv,L,_⟩:=hp;simp only[VR]at hv;subst hv;exact⟨rfl,L.below⟩
section
variable {H:Type} {enc:TypeId×Value->H} {P:Program}
omit [Dr]in
theorem mH{f:Func}{s:ChangeSpec}{apart fresh handsOn again:Bool}{W W':World}{args:Array Value}{v:Value}{ds gs:List (DataW H)}{before pa pv:List MemPlace}(hW:DataW.Whole enc P f.params.toList s.vars apart W args.toList ds gs before)(hres:∀(b:Nat)(sp:Nat->Bool)(hd:Bool),DataW.TrodAll enc P W' b sp hd f.resultTypes.toList (v.resultList f.resultTypes.size) (s.fn H (ds++gs)).results [])(hargs:∀sp:Nat->Bool,(∀p∈before,sp p.block=true)->DataW.TrodAll enc P W' 0 sp true f.params.toList args.toList (s.fn H (ds++gs)).args pa)(hvars:∀sp:Nat->Bool,(∀p∈before,sp p.block=true)->DataW.TrodVars enc P W' sp s.vars (s.fn H (ds++gs)).vars pv)(hps:before=pa++pv)(hb:Below W.heap.size W W')(hok:∀(j:Nat)(t:TypeId)(r:Value),f.resultTypes[j]? = some t->(v.resultList f.resultTypes.size)[j]? = some r->Value.okWide P W' .any 0 t r):
  s.post enc P f apart fresh handsOn again W args v W':=by
 have hlt:∀p∈before,p.block<W.heap.size:=fun p hp=>hW.lt p hp;have hold:∀p∈before,(fun b=>decide (b<W.heap.size)) p.block=true:=fun p hp=>by simpa using hlt p hp
 refine⟨ds,gs,before,[],pa,pv,hW,hres _ _ _,hargs _ hold,hvars _ hold,World.keptBut_mono (fun p hp=>⟨hp,?_⟩) (hb.frame (· ∈before)),fun _=>?_⟩
 ·rw[hps,Gx]at hp;exact Or.inr hp
 ·obtain⟨_,_,_,_,_,hz,hn⟩:=hW;refine⟨hok,_,_,([]++pa)++pv,⟨[]++pa,pv,trodAll_append (hargs _ (fun _ _=>rfl)) (hres _ _ _),hvars _ (fun _ _=>rfl),rfl,?_,?_⟩,?_⟩
  ·intro b off hp;have hin:MemPlace.cell b off∈before:=by rw[hps];simpa using hp
   rw[hb.frozen (hlt _ hin)];exact hz b off hin
  ·intro ha
   have:=hn ha
   rw[hps]at this;simpa using this
  ·intro p hp _;rw[hps];simpa using hp
end
end Go.Av
namespace Go.Av
open Go.RowKit
section
variable {H:Type} {enc:TypeId×Value->H} {P:Program} {w w':World}
theorem il{base:Nat}{spare:Nat->Bool}{held:Bool}:∀ {ts:List TypeId} {vs:List Value} {ds:List (DataW H)} {ps:List MemPlace},DataW.TrodAll enc P w base spare held ts vs ds ps->(∀p∈ps,w.sameAt w' p)->DataW.TrodAll enc P w' base spare held ts vs ds ps
 |[],[],[],_,h,_=>h
 |_:: _,_:: _,_:: _,_,⟨p,q,⟨n,h1⟩,h2,e⟩,hs=>⟨p,q,⟨n,DataW.trod_carry n _ _ _ h1 (fun x hx=>hs x (by rw[e];exact List.mem_append_left _ hx))⟩,il h2 (fun x hx=>hs x (by rw[e];exact List.mem_append_right _ hx)),e⟩
theorem oJ(hb:Below w.heap.size w w'){p:MemPlace}(hp:p.block<w.heap.size):w.sameAt w' p:=by
 cases p with
 |cell b off=>
  have:=hb.block b hp
  show w'.cell? ⟨b,off,none⟩=w.cell? ⟨b,off,none⟩;simp only[World.cell?,this]
 |map b=>exact hb.block b hp
theorem qZ{T:TypeId->Prop}(K:Kids P T)(hz:∀t e,T t->P.underlying t=some (.slice e)->0<P.cellsOf e){ts:List TypeId}{vs:List Value}{ds:List (DataW H)}{ps:List MemPlace}(hT:∀t∈ts,T t)(h:DataW.TrodAll enc P w 0 (fun _=>true) true ts vs ds ps)(hlt:∀p∈ps,p.block<w.heap.size)(hb:Below w.heap.size w w')(sp:Nat->Bool)(hsp:∀p∈ps,sp p.block=true):DataW.TrodAll enc P w' 0 sp true ts vs ds ps:=
 (il h fun p hp=>oJ hb (hlt p hp)).respare K hz hT hsp
end
theorem s6{α:Type}(Q:Nat->α->Prop):∀n,(∀i,i<n->∃x,Q i x)->∃l:List α,l.length=n/\∀i x,l[i]? = some x->Q i x
 |0,_=>⟨[],rfl,fun i x h=>by simp at h⟩
 | n+1,h=>by
  obtain⟨l,h1,h2⟩:=s6 Q n fun i hi=>h i (by omega);obtain⟨y,hy⟩:=h n (by omega);refine⟨l++[y],by simp[h1],fun i x hx=>?_⟩;by_cases hi:i<n
  ·rw[Gc (by omega)]at hx;exact h2 i x hx
  ·rw[Gn (by omega)]at hx;have hin:i-l.length=0:=by
    rcases GN (i-l.length)with h|h
    ·exact h
    ·rw[Gi (by simp;omega)]at hx;cases hx
   rw[hin]at hx;simp only[Gw,F7]at hx;subst hx;obtain rfl:i=n:=by omega
   exact hy
end Go.Av
namespace Go.Av
open Go.RowKit Go.WideShapes Go.ChangeShapes
section
variable {H:Type} (enc:TypeId×Value->H) (P:Program) (W:World)
def Rd{α:Type}(N:Nat)(t:TypeId)(cells:α->List AV)(Ok:α->Prop):Prop:=∀(base:Nat)(held:Bool)(n:Nat),n<N->∀(cs:List Value)(x:DataW H×List MemPlace),DataW.trod enc P W base (fun _=>true) held n t cs=some x->(∀k∈x.1.weights P t,k<=reachBytes)->∃a:α,aP (iM W) [] (cells a) cs/\Ok a
def xK{α:Type}(N:Nat)(tot:Nat)(o:Nat)(fs:List Field)(cells:α->List AV)(Ok:α->Prop):Prop:=∀(base:Nat)(held:Bool)(n:Nat),n<N->∀(cs:List Value)(xs:List (DataW H×List MemPlace)),cs.length=tot->
 xs.length=fs.length->(∀(i:Nat)(f:Field),fs[i]? = some f->DataW.trod enc P W base (fun _=>true) held n f.type ((cs.drop f.offset).take (P.cellsOf f.type))=xs[i]?)->(∀k∈DataW.weightsEach P (fs.map (·.type)) (xs.map (·.1)),k<=reachBytes)->∃a:α,aP (iM W) [] (cells a) (cs.drop o)/\Ok a
variable {enc P W} {α β:Type} {N:Nat} {t:TypeId}
theorem Rd.zero{cells:α->List AV}{Ok:α->Prop}:Rd enc P W 0 t cells Ok:=fun _ _ n hn=>absurd hn (by omega)
theorem Rd.le{cells:α->List AV}{Ok:α->Prop}(h:Rd enc P W N t cells Ok){M:Nat}(hm:M<=N):Rd enc P W M t cells Ok:=fun b hd n hn=>h b hd n (by omega)
theorem Rd.map{cells:α->List AV}{Ok:α->Prop}(h:Rd enc P W N t cells Ok)(g:α->β){cells':β->List AV}{Ok':β->Prop}(hc:∀a,cells' (g a)=cells a)(ho:∀a,Ok a->Ok' (g a)):Rd enc P W N t cells' Ok':=by
 intro b hd n hn cs x hx hw;obtain⟨a,h1,h2⟩:=h b hd n hn cs x hx hw;exact⟨g a,by rw[hc];exact h1,ho a h2⟩
theorem r8{k:IntKind}(ht:P.underlying t=some (.int k)):Rd enc P W N t (fun n:Int=>[.int k n]) (fun n=>(Lit.int k n).wf=true):=by
 intro b hd n hn cs x hx hw;obtain⟨b,rfl,_,hwf⟩:=DataW.trod_int ht hx;exact⟨b,by simp[aP,VR],hwf⟩
theorem wW(ht:P.underlying t=some .string):Rd enc P W N t (fun s:List UInt8=>[.str s]) (fun s=>s.length<=reachBytes):=by
 intro b hd n hn cs x hx hw;obtain⟨s,rfl,rfl,_⟩:=DataW.trod_string ht hx;exact⟨s.data.toList,by simp[aP,VR],hw _ (by simp[DataW.weights])⟩
def z6(cells:α->List AV)(ev:α->AV)(sz:Nat):Prop:=∀(a:α)(S:ap)(β:List aZ)(vs:List Value),aP S β (cells a) vs->vs.length=sz->∃v,VR S β (ev a) v/\v.cells.toList=vs
theorem mX{cells:α->List AV}{ev:α->AV}{sz:Nat}(he:∀a,ev a= .agg (cells a)):z6 cells ev sz:=fun a S β vs h hl=>⟨.agg vs.toArray,by rw[he];simp only[VR];exact⟨vs,rfl,h⟩,by simp[Value.cells]⟩
theorem vW{ev:α->AV}(ho:∀a,aE (ev a)=true):z6 (fun a=>[ev a]) ev 1:=fun a S β vs h hl=>by
 simp only[aP]at h;obtain⟨v,_,rfl,h,rfl⟩:=h;exact⟨v,h,by rw[(dN (ho a) h).1]⟩
theorem gG{e:TypeId}:∀ {l:List (DataW H)} {d:DataW H},d∈l->∀k∈d.weights P e,k∈DataW.weightsAll P e l
 |x:: l,d,hd,k,hk=>by
  simp only[DataW.weightsAll,Gx];rcases Gt.1 hd with rfl|hd
  ·exact .inl hk
  ·exact .inr (gG hd k hk)
theorem l5{e:TypeId}{cells:α->List AV}{Ok:α->Prop}(h:Rd enc P W N e cells Ok)(ht:P.underlying t=some (.slice e)){sz by_:Nat}(hsz:P.cellsOf e=sz)(h0:0<sz)(hby:P.bytesOf e=by_){ev:α->AV}(hev:z6 cells ev sz):
  Rd enc P W N t (fun l:List α=>[.sl (l.map ev)]) (fun l=>l.length*by_<=reachBytes/\∀a∈l,Ok a):=by
 intro base hd n hn cs x hx hw;rcases DataW.trod_slice ht hx with⟨rfl,rfl⟩|⟨a,len,cap,elems,rest,m,rfl,rfl,rfl,hb,hle,hm,hlen,hel,hsp,_⟩
 ·exact⟨[],by simp only[aP,List.map_nil,VR];exact⟨_,_,rfl,⟨none,0,rfl,Ga _,fun _=>rfl,fun q hq=>by cases hq⟩,rfl⟩,by simp,fun a ha=>by cases ha⟩
 obtain⟨hrl,hre⟩:=hsp rfl;rw[hsz]at hel hre;simp only[DataW.weights,ht,Gt,Gx,hby]at hw;have hspot:0<cap->a.spot=none:=by
  intro hc;have:∃y,(W.cells? base (a.add 0) sz).bind (DataW.trod enc P W base (fun _=>true) hd m e)=some y:=by
   by_cases h1:0<len
   ·have:=hel 0 h1
    rw[Gm (by omega)]at this;exact⟨_,by simpa using this⟩
   ·have:=hre 0 (by omega)
    rw[Gm (by omega)]at this;obtain rfl:len=0:=by omega
    exact⟨_,by simpa using this⟩
  obtain⟨y,hy⟩:=this;obtain⟨cs,hcs,_⟩:=IP.1 hy;obtain⟨_,hl,hc⟩:=World.cells?_some hcs;have h2:=hc 0 h0;rw[Gm (by omega)]at h2;have h3:=World.cell?_spot h2;have e:(a.add 0).add 0=a:=by unfold Addr.add;simp
  rwa [e]at h3
 have hx:∀i,i<len->∃y:α,(∃v,VR (iM W) [] (ev y) v/\v.cells.size=sz/\cY (iM W) a.block (a.off+i*sz) v.cells.toList)/\Ok y:=by
  intro i hi;have h1:=hel i hi;rw[Gm (by omega)]at h1;obtain⟨cs,hcs,htr⟩:=IP.1 h1;obtain⟨y,hy,hok⟩:=h base hd m (by omega) cs _ htr (fun k hk=>hw k (.inr (.inl (gG (H3.2 ⟨_,GC _,rfl⟩) k hk))));obtain⟨_,hl,hc⟩:=World.cells?_some hcs;obtain⟨v,hv,hvc⟩:=hev y _ _ cs hy hl;refine⟨y,⟨v,hv,by rw[<- Gs,hvc,hl],fun j u hj=>?_⟩,hok⟩;rw[hvc]at hj;have hjl:j<sz:=by
   rcases Gp j cs.length with h|h
   ·omega
   ·rw[Gi h]at hj;cases hj
  have h2:=hc j hjl;rw[hj]at h2;unfold iM;have hs:=hspot (by omega);have e:(a.add (i*sz)).add j=⟨a.block,a.off+i*sz+j,none⟩:=by
   obtain⟨b,o,s⟩:=a;simp only at hs;subst hs;rw[add_plain,add_plain]
  rw[<- e];exact h2
 obtain⟨l,hl1,hl2⟩:=s6 (fun i y=>(∃v,VR (iM W) [] (ev y) v/\v.cells.size=sz/\cY (iM W) a.block (a.off+i*sz) v.cells.toList)/\Ok y) len hx;refine⟨l,?_,?_,fun y hy=>?_⟩
 ·simp only[aP,VR,Hz];refine⟨_,_,rfl,⟨some a,cap,by rw[hl1],by omega,(fun e=>by cases e),fun q hq=>?_⟩,rfl⟩;cases hq;refine⟨hspot,sz,.of_get fun i e he=>?_⟩;rw[Hk,G8]at he;obtain⟨y,hy,rfl⟩:=he;exact (hl2 i y hy).1
 ·have:=hw _ (.inl rfl)
  simp only[Hz]at this;have h3:=Gr by_ (show l.length<=elems.length+rest.length by omega);omega
 ·obtain⟨i,hi,e⟩:=List.getElem_of_mem hy;exact (hl2 i y (by rw[Gm hi,e])).2
theorem l4{tot:Nat}:xK enc P W N tot tot [] (fun _:Unit=>[]) (fun _=>True):=fun base hd n hn cs xs hl _ _ _=>⟨(),by simp[aP,<- hl],trivial⟩
theorem dz{tot o k:Nat}{f:Field}{fs:List Field}{c1:α->List AV}{Ok1:α->Prop}{c2:β->List AV}{Ok2:β->Prop}(h1:Rd enc P W N f.type c1 Ok1)(ho:f.offset=o)(hk:P.cellsOf f.type=k)(h2:xK enc P W N tot (o+k) fs c2 Ok2):
  xK enc P W N tot o (f:: fs) (fun x:α×β=>c1 x.1++c2 x.2) (fun x=>Ok1 x.1/\Ok2 x.2):=by
 intro base hd n hn cs xs hl hx hf hw
 match xs,hx with
 |x:: xs,hx=>
  have hf0:=hf 0 f rfl;rw[ho,hk]at hf0;simp only[GY,DataW.weightsEach,Gx]at hw;obtain⟨a,ha,oa⟩:=h1 base hd n hn _ x hf0 fun k hk=>hw k (.inl hk);obtain⟨b,hb,ob⟩:=h2 base hd n hn cs xs hl (by simpa using hx) (fun i g hg=>by simpa using hf (i+1) g (by simpa using hg)) fun k hk=>hw k (.inr hk);refine⟨(a,b),?_,oa,ob⟩
  have:=ha.append hb
  rwa [<- IX,Hl]at this
theorem jL{fs:Array Field}{tot:Nat}{cells:α->List AV}{Ok:α->Prop}(ht:P.underlying t=some (.struct fs))(hc:P.cellsOf t=tot)(h:xK enc P W N tot 0 fs.toList cells Ok):Rd enc P W (N+1) t cells Ok:=by
 intro base hd n hn cs x hx hw;obtain⟨xs,m,rfl,rfl,hl,hxs,hf⟩:=DataW.trod_struct ht hx;simp only[DataW.weights,ht]at hw;obtain⟨a,h1,h2⟩:=h base hd m (by omega) cs xs (by rw[hl,hc]) (by simpa using hxs) (fun i f hi=>hf i f (by simpa using hi)) hw;exact⟨a,by simpa using h1,h2⟩
theorem BI{cells:α->List AV}{Ok:α->Prop}(h:∀N,Rd enc P W N t cells Ok){base:Nat}{held:Bool}{v:Value}{d:DataW H}{p:List MemPlace}(hd:DataW.Trod enc P W base (fun _=>true) held t v d p)(hw:∀k∈d.weights P t,k<=reachBytes):
  ∃a:α,aP (iM W) [] (cells a) v.cells.toList/\Ok a:=by
 obtain⟨n,hn⟩:=hd;exact h (n+1) base held n (by omega) _ _ hn hw
theorem iu{fs:Array Field}{r:Reach}{b0:Nat}{f:α->AV}{Ok:α->Prop}{cells:α->List AV}(h:∀N,Rd enc P W N t cells Ok)(hf:∀a,f a= .agg (cells a))(ht:P.underlying t=some (.struct fs)){base:Nat}{held:Bool}{v:Value}{d:DataW H}{p:List MemPlace}(hok:Value.okWide P W r b0 t v)(hd:DataW.Trod enc P W base (fun _=>true) held t v d p)(hw:∀k∈d.weights P t,k<=reachBytes):∃a:α,VR (iM W) [] (f a) v/\Ok a:=by
 obtain⟨cs,rfl,_⟩:=okWide_struct ht hok;obtain⟨a,h1,h2⟩:=BI h hd hw;refine⟨a,?_,h2⟩;rw[hf];simp only[VR];exact⟨cs.toList,by simp,h1⟩
theorem iz{ts:List TypeId}{ds:List (DataW H)}(h:(DataW.weightsEach P ts ds).all (· <=reachBytes)=true){j:Nat}{u:TypeId}{d:DataW H}(ht:ts[j]? = some u)(hd:ds[j]? = some d):∀k∈d.weights P u,k<=reachBytes:=fun k hk=>by
 have:=Gk.1 h _ (DataW.weights_mem_each ht hd k hk)
 simpa using this
end
end Go.Av
namespace Go.Av.Ap
open Go Go.Av
def Val.limN:Nat->Val->Prop
 |0,_=>True
 |n+1,v=>v.names.length<=140737488355328/\v.values.length<=140737488355328/\∀x∈v.values,x.limN n
def Val.Lim(v:Val):Prop:=∀n,v.limN n
def Exp.limN:Nat->Exp->Prop
 |0,_=>True
 |n+1,v=>v.names.length<=8796093022208/\v.args.length<=140737488355328/\∀x∈v.args,x.limN n
def Exp.Lim(v:Exp):Prop:=∀n,v.limN n
def Ty.limN:Nat->Ty->Prop
 |0,_=>True
 |n+1,v=>v.fields.length<=140737488355328/\∀x∈v.fields,x.2.limN n
def Ty.Lim(v:Ty):Prop:=∀n,v.limN n
def Val.Lim.names{v:Val}(h:v.Lim):v.names.length<=140737488355328:=(h 1).1
def Val.Lim.len{v:Val}(h:v.Lim):v.values.length<=140737488355328:=(h 1).2.1
def Val.Lim.kid{v:Val}(h:v.Lim){x:Val}(hx:x∈v.values):x.Lim:=fun n=>(h (n+1)).2.2 x hx
def Exp.Lim.names{v:Exp}(h:v.Lim):v.names.length<=8796093022208:=(h 1).1
def Exp.Lim.len{v:Exp}(h:v.Lim):v.args.length<=140737488355328:=(h 1).2.1
def Exp.Lim.kid{v:Exp}(h:v.Lim){x:Exp}(hx:x∈v.args):x.Lim:=fun n=>(h (n+1)).2.2 x hx
def Ty.Lim.len{v:Ty}(h:v.Lim):v.fields.length<=140737488355328:=(h 1).1
def Ty.Lim.kid{v:Ty}(h:v.Lim){x:bv}(hx:x∈v.fields):x.2.Lim:=fun n=>(h (n+1)).2 x hx
structure Fun.Lim (f:Fun):Prop where
 params:f.params.length<=140737488355328
 pty:∀x∈f.params,x.2.Lim
 result:f.result.Lim
 body:f.body.Lim
structure Mod.Lim (m:Mod):Prop where
 uses:m.uses.length<=140737488355328
 vars:m.vars.length<=140737488355328
 vty:∀x∈m.vars,x.2.Lim
 init:m.init.length<=140737488355328
 ies:∀e∈m.init,e.Lim
 funcs:m.funcs.length<=140737488355328
 fns:∀f∈m.funcs,f.Lim
 old:m.old.length<=140737488355328
 oty:∀x∈m.old,x.2.Lim
 forward:m.forward.length<=140737488355328
 fes:∀e∈m.forward,e.Lim
 back:m.back.length<=140737488355328
 bes:∀e∈m.back,e.Lim
def kI(b:UInt8):Bool:=decide (97<=b.toNat)&&decide (b.toNat<=122)
def rn(b:UInt8):Bool:=decide (48<=b.toNat)&&decide (b.toNat<=57)
def kZ(b:UInt8):Bool:=kI b||rn b
def ky(s:bO):Bool:=!(s== [])&&kI (s.headD 0)&&decide (s.length<=20)&&((s.takeWhile kZ).length== s.length)
def gX:bO:=[32,97,110,100,32,98,97,99,107,32,98,111,111,108,32,99,108,111,99,107,32,101,108,115,101,32,102,97,108,115,101,32,102,105,108,101,115,32,102,110,32,102,111,114,119,97,114,100,32,103,101,116,32,105,102,32,105,110,32,105,110,116,32,108,101,116,32,109,111,100,117,108,101,32,109,111,118,101,32,110,101,116,32,110,111,116,32,111,114,32,112,117,98,32,115,101,99,114,101,116,115,32,115,101,116,32,116,104,101,110,32,116,114,117,101,32,117,115,101,32,118,97,114,32]
def fo(s:bO):Bool:=ky s&&!(Lib.contains gX ([32]++s++[32]))
def uL{s:bO}(h:ky s=true):s.length<=20:=by
 unfold ky at h;simp only[F8,Ge]at h;exact h.1.2
def dA(p f:bO):Bool:=!(aC f p||f== p)
def gh{α:Type}(Q:α->α->Bool):List α->Bool
 |x:: y:: r=>Q x y&&gh Q (y:: r)
 |_=>true
theorem pc{α:Type}[Inhabited α](Q:α->α->Bool):(l:List α)->(gh Q l=true↔∀k,k+1<l.length->Q l[k]! l[k+1]! = true)
 |[]=>by simp[gh]
 |[x]=>by simp[gh]
 | x:: y:: r=>by
  simp only[gh,F8,pc Q (y:: r)];constructor
  ·rintro⟨h1,h2⟩ k hk;cases k with
   |zero=>simpa using h1
   |succ k=>simpa using h2 k (by simpa using hk)
  ·intro h;refine⟨by simpa using h 0 (by simp),fun k hk=>?_⟩;simpa using h (k+1) (by simpa using hk)
def xN{α:Type}[Inhabited α](P:α->Bool)(Q:α->α->Bool)(l:List α):(List.range' 0 l.length).all (fun k=>P l[k]! && (decide (k=0)||Q l[k-1]! l[k]!))=(l.all P&&gh Q l):=by
 rw[Hn,F8,<- qW P l,pc];simp only[Gk,List.mem_range'_1,F8,G9,Ge];constructor
 ·intro h;refine⟨fun k hk=>(h k hk).1,fun k hk=>?_⟩
  have:=(h (k+1) ⟨Hi _,by omega⟩).2
  rcases this with h0|h1
  ·omega
  ·simpa using h1
 ·rintro⟨h1,h2⟩ k hk;refine⟨h1 k hk,?_⟩;cases k with
  |zero=>exact .inl rfl
  |succ k=>exact .inr (by simpa using h2 k (by omega))
def a6:Nat->Ty->Bool
 |0,_=>false
 |d+1,t=>decide (0<=t.kind)&&decide (t.kind<3)&&decide (t.fields.length<=8)&&(t.kind== 2||t.fields.length== 0)&&(t.fields.all (fun f=>fo f.1&&a6 d f.2)&&gh (fun a b=>dA a.1 b.1) t.fields)
theorem bM(d:Nat)(t:Ty):a6 (d+1) t=(decide (0<=t.kind)&&decide (t.kind<3)&&decide (t.fields.length<=8)&&(t.kind== 2||t.fields.length== 0)&&(t.fields.all (fun f=>fo f.1&&a6 d f.2)&&gh (fun a b=>dA a.1 b.1) t.fields)):=rfl
abbrev bd(t:Ty):Bool:=a6 4 t
mutual
def nV:Ty->Ty->Bool
 |.mk k fs,a=>a.kind== k&&kG fs a.fields
def kG:List (bO×Ty)->List bv->Bool
 |[],_=>true
 |f:: fs,l=>q8 f l&&kG fs l
def q8:bO×Ty->List bv->Bool
 |(n,t),l=>match bY (fun z=>z.1== n) l with
  |some z=>nV t z.2
  |none=>false
end
def gl(a b:Ty):Bool:=nV b a
theorem jX:(fs:List bv)->(l:List bv)->kG fs l=fs.all fun f=>q8 f l
 |[],_=>rfl
 |f:: fs,l=>by simp[kG,jX fs l]
def mS(a b:Ty):gl a b=(a.kind== b.kind&&b.fields.all fun f=>match bY (fun z=>z.1== f.1) a.fields with|some z=>gl z.2 f.2|none=>false):=by
 cases b with
 |mk k fs=>
  show nV (.mk k fs) a=_;simp only[nV,jX,Ty.kind,Ty.fields];congr 2;funext f;obtain⟨n,t⟩:=f;simp only[q8,gl]
def su(a b:Ty):Bool:=bd a&&bd b&&gl a b
def yr(a b:Int):Int:=IntKind.i64.wrap (BitVec.ofInt 64 a &&& ~~~ BitVec.ofInt 64 b).toNat
structure Sig.Lim (s:Sig):Prop where
 plen:s.params.length<=140737488355328
 ptys:∀t∈s.params,t.Lim
 result:s.result.Lim
structure Face.Lim (f:Face):Prop where
 len:f.funcs.length<=140737488355328
 sigs:∀s∈f.funcs,s.Lim
@[simp] theorem A0(x:Sig):bn 5 x.av=aw x.av:=by rw[bT (lW x),kW,pL]
@[simp] theorem ya(x:Sig):aK 5 [] x.av=aw x.av:=by rw[bz (lW x),kW,pL]
end Go.Av.Ap
namespace Go.Av.Ap
def asc:List bO->Bool
 |[]=>true
 |[_]=>true
 |x:: y:: l=>aC x y&&asc (y:: l)
def cE:Nat->Val->Bool
 |0,_=>false
 |d+1,v=>if(v.kind== 0||v.kind== 1)=true then v.names.length== 0&&v.values.length== 0&&(v.kind== 0||v.n== 0||v.n== 1)
  else v.kind== 2&&v.n== 0&&v.names.length== v.values.length&&decide (v.names.length<=8)&&asc v.names&&v.values.all (cE d)
def jM(b:Bool):Val:=.mk 1 (if b then 1 else 0) [] []
def uw(n:Int):Val:=.mk 0 n [] []
def DN(p:List Mod)(s:bO):Int:=bE (fun m=>m.name== s) p 0
def Dw(l:List Fun)(s:bO):Int:=bE (fun f=>f.name== s) l 0
def Ds(l:List bv)(s:bO):Int:=bE (fun f=>f.1== s) l 0
structure Ms where
 fuel:Int
 frames:Int
 world:List Int
 deeds:List Deed
 calls:List Call
 state:List (List Val)
inductive Rs (α:Type) where
 |ok (a:α) (m:Ms)
 |er (e:Int) (m:Ms)
def X(α:Type):=Ms->Rs α
def X.ok{α:Type}(a:α):X α:=fun m=>.ok a m
def X.er{α:Type}(e:Int):X α:=fun m=>.er e m
def X.bind{α β:Type}(x:X α)(f:α->X β):X β:=fun m=>match x m with
 |.ok a m'=>f a m'
 |.er e m'=>.er e m'
def X.upd{α:Type}(f:Ms->Ms)(x:X α):X α:=fun m=>x (f m)
def X.get{α:Type}(f:Ms->X α):X α:=fun m=>f m m
def vC(op:Int):Int:=
 if op=0\/op=1\/op=2\/op=17 then 0
 else if op=10\/op=14\/op=16\/op=18 then 1
 else if op=3\/op=4\/op=5\/op=6\/op=7\/op=8\/op=9\/op=12 then 2
 else if op=11 then 3
 else if op=13\/op=15 then -1
 else -2
def zU:List bO->List Val->bO->Option Val
 |n:: ns,v:: vs,s=>match zU ns vs s with
  |some x=>some x
  |none=>if n=s then some v else none
 |_,_,_=>none
def e7:List bO->List Val->bO->Option Val
 |n:: ns,v:: vs,s=>if n=s then some v else e7 ns vs s
 |_,_,_=>none
def wr(n:Int):Int:=IntKind.i64.wrap n
def Db(op:Int)(a b:Val):X Val:=
 if op=7 then(if a.kind=b.kind/\a.kind≠2 then .ok (jM (a.n== b.n))else .er 13)
 else if a.kind=0/\b.kind=0 then
  (if op=3 then .ok (uw (wr (a.n+b.n)))else if op=4 then .ok (uw (wr (a.n-b.n)))else if op=5 then .ok (uw (wr (a.n*b.n)))else .ok (jM (decide (a.n<b.n))))
 else .er 13
mutual
def wG:Val->Nat
 |.mk _ _ _ vs=>s5 vs+1
def s5:List Val->Nat
 |[]=>0
 |v:: vs=>max (wG v) (s5 vs)
end
abbrev Ev:=Int->List bO->List Val->Exp->X Val
def boolX(r:X Val):X Bool:=r.bind fun v=>if v.kind=1 then .ok (v.n== 1)else .er 13
def listX(r:Exp->X Val):List Exp->X (List Val)
 |[]=>.ok []
 |e:: es=>(r e).bind fun v=>(listX r es).bind fun vs=>.ok (v:: vs)
def tA(r:Exp->X Val)(e:Exp):X Val:=
 if e.names.length=e.args.length/\asc e.names=true then
  (if e.names.length<=8 then(listX r e.args).bind fun vs=>if wG (.mk 2 0 e.names vs)<=4 then .ok (.mk 2 0 e.names vs)else .er 6 else .er 6)
 else .er 13
def wn(p:List Mod)(at_:Int)(s:bO):Option Fun:=
 if at_<0 then none else(let l:=(p[at_.toNat]?.getD default).funcs;let i:=Dw l s;if i<0 then none else l[i.toNat]?)
def v7(p:List Mod)(r:Ev)(at_:Int)(f:Fun)(l:List Val):X Val:=
 .get fun m=>if m.frames<60 then
  .upd (fun m=>{ m with calls:=if f.pub=true then m.calls++[⟨(p[at_.toNat]?.getD default).name,f.name,l⟩]else m.calls,frames:=m.frames+1 })
   ((r at_ (f.params.map (·.1)) l f.body).bind fun v=>.upd (fun m=>{ m with frames:=m.frames-1 }) (.ok v))
 else .er 6
def zK(p:List Mod)(r:Ev)(own:Int)(ns:List bO)(vs:List Val)(e:Exp):X Val:=
 let at_:=if e.m=[]then own else DN p e.m
 match wn p at_ e.s with
 |none=>.er 12
 | some f=>if e.m=[]\/f.pub=true then
   (if e.args.length=f.params.length then(listX (r own ns vs) e.args).bind fun l=>v7 p r at_ f l else .er 13)
  else .er 12
def CF(r:X Val)(e:Exp):X Val:=
 r.bind fun v=>if v.kind=0 then
  (if e.n=1\/e.n=2\/e.n=4\/e.n=8 then
   .get fun m=>.upd (fun m=>{ m with world:=m.world.tail,deeds:=m.deeds++[⟨e.n,v.n,m.world.headD 0⟩] }) (.ok (uw (m.world.headD 0)))
  else .er 14)
 else .er 13
def setSt(st:List (List Val))(i k:Nat)(v:Val):List (List Val):=st.modify i fun l=>l.set k v
def zS(st:List (List Val))(i k:Nat):Val:=(st.getD i []).getD k default
def Eg(p:List Mod)(r:Exp->X Val)(own:Int)(e:Exp):X Val:=
 if own<0 then .er 12 else
 let i:=Ds (p[own.toNat]?.getD default).vars e.s
 if i<0 then .er 12 else
 if e.op=18 then(r e.args[0]!).bind fun v=>.upd (fun m=>{ m with state:=setSt m.state own.toNat i.toNat v }) (.ok v)
 else .get fun m=>.ok (zS m.state own.toNat i.toNat)
def xk(p:List Mod)(r:Ev):Ev:=fun own ns vs e=>.get fun m=>
 if m.fuel<=0 then .er 16 else .upd (fun m=>{ m with fuel:=m.fuel-1 }) <|
 let n:=vC e.op
 if n= -2\/(n≠-1/\n≠e.args.length)then .er 13
 else if e.op=0 then .ok (uw e.n)
 else if e.op=1 then(if e.n=0\/e.n=1 then .ok (jM (e.n== 1))else .er 13)
 else if e.op=2 then(match zU ns vs e.s with|some v=>.ok v|none=>.er 12)
 else if e.op=3\/e.op=4\/e.op=5\/e.op=6\/e.op=7 then(r own ns vs e.args[0]!).bind fun a=>(r own ns vs e.args[1]!).bind fun b=>Db e.op a b
 else if e.op=8\/e.op=9 then(boolX (r own ns vs e.args[0]!)).bind fun x=>if x=(e.op== 9)then .ok (jM (e.op== 9))else(boolX (r own ns vs e.args[1]!)).bind fun y=>.ok (jM y)
 else if e.op=10 then(boolX (r own ns vs e.args[0]!)).bind fun x=>.ok (jM !x)
 else if e.op=11 then(boolX (r own ns vs e.args[0]!)).bind fun x=>if x=true then r own ns vs e.args[1]! else r own ns vs e.args[2]!
 else if e.op=12 then(r own ns vs e.args[0]!).bind fun v=>r own (ns++[e.s]) (vs++[v]) e.args[1]!
 else if e.op=13 then tA (r own ns vs) e
 else if e.op=14 then(r own ns vs e.args[0]!).bind fun v=>(match e7 v.names v.values e.s with|some x=>if v.kind=2 then .ok x else .er 13|none=>.er 13)
 else if e.op=15 then zK p r own ns vs e
 else if e.op=16 then CF (r own ns vs e.args[0]!) e
 else Eg p (r own ns vs) own e
def zQ(p:List Mod):Nat->Ev
 |0=>fun _ _ _ _=>.er 16
 |n+1=>xk p (zQ p n)
end Go.Av.Ap
namespace Go.Av.Ap
def Rs.st{α:Type}:Rs α->Ms
 |.ok _ m=>m
 |.er _ m=>m
def Rs.on{α:Type}(f:Ms->Ms):Rs α->Rs α
 |.ok a m=>.ok a (f m)
 |.er e m=>.er e (f m)
def Ed{α:Type}(y:X α):X α:=.get fun m=>if m.fuel<=0 then .er 16 else .upd (fun m=>{ m with fuel:=m.fuel-1 }) y
def E8(n a:Int):X Val:=.get fun m=>.upd (fun m=>{ m with world:=m.world.tail,deeds:=m.deeds++[⟨n,a,m.world.headD 0⟩] }) (.ok (uw (m.world.headD 0)))
structure Closed (p:List Mod) (Q:Int->(α:Type)->X α->Prop):Prop where
 ok:∀(o:Int)(α:Type)(a:α),Q o α (.ok a)
 er:∀(o:Int)(α:Type)(e:Int),e≠0->Q o α (.er e)
 bind:∀(o:Int)(α β:Type)(x:X α)(f:α->X β),Q o α x->(∀a,Q o β (f a))->Q o β (x.bind f)
 tick:∀(o:Int)(α:Type)(y:X α),Q o α y->Q o α (Ed y)
 act:∀(o n a:Int),Q o Val (E8 n a)
 set:∀(o:Int)(k:Nat)(v:Val),¬o<0->Q o Val (.upd (fun m=>{ m with state:=setSt m.state o.toNat k v }) (.ok v))
 get:∀(o:Int)(k:Nat),Q o Val (.get fun m=>.ok (zS m.state o.toNat k))
 enter:∀(o a:Int)(r:Ev)(f:Fun)(l:List Val),¬a<0->a.toNat<p.length->f∈(p[a.toNat]?.getD default).funcs->(∀o ns vs e,Q o Val (r o ns vs e))->Q o Val (v7 p r a f l)
def rH{p:List Mod}{a:Int}{s:bO}{f:Fun}(h:wn p a s=some f):¬a<0/\a.toNat<p.length/\f∈(p[a.toNat]?.getD default).funcs:=by
 unfold wn at h;by_cases h1:a<0
 ·simp[h1]at h
 ·rw[if_neg h1]at h;simp only at h;split at h
  ·cases h
  ·have hm:=He h;refine⟨h1,?_,hm⟩;rcases Gp a.toNat p.length with k|k
   ·exact k
   ·rw[Gi k]at hm;cases hm
def DK{Q:Int->(α:Type)->X α->Prop}{o:Int}{α:Type}{c:Prop}[Decidable c](x y:X α)(h1:Q o α x)(h2:Q o α y):Q o α (if c then x else y):=by
 split
 ·exact h1
 ·exact h2
section
variable {p:List Mod} {Q:Int->(α:Type)->X α->Prop} (C:Closed p Q)
include C
theorem Closed.boolX{o:Int}{r:X Val}(h:Q o Val r):Q o Bool (boolX r):=by
 refine C.bind _ _ _ _ _ h fun v=>?_;split
 ·exact C.ok _ _ _
 ·exact C.er _ _ _ (by decide)
theorem Closed.listX{o:Int}{r:Exp->X Val}(h:∀e,Q o Val (r e)):∀l,Q o (List Val) (listX r l)
 |[]=>C.ok _ _ _
 |e:: l=>C.bind _ _ _ _ _ (h e) fun _=>C.bind _ _ _ _ _ (Closed.listX h l) fun _=>C.ok _ _ _
theorem Closed.step{r:Ev}(h:∀o ns vs e,Q o Val (r o ns vs e))(o:Int)(ns:List bO)(vs:List Val)(e:Exp):Q o Val (xk p r o ns vs e):=by
 unfold xk;refine C.tick _ _ _ ?_;have B:=fun{α β:Type} {x:X α} {f:α->X β}=>C.bind o α β x f;have I:=@DK Q o;have er:=fun(α:Type) n (h:n≠0)=>C.er o α n h;have ok:=fun(α:Type) (a:α)=>C.ok o α a;refine I _ _ (er _ _ (by decide)) (I _ _ (ok _ _) (I _ _ (I _ _ (ok _ _) (er _ _ (by decide))) (I _ _ ?_ (I _ _ ?_ (I _ _ ?_ (I _ _ ?_ (I _ _ ?_ (I _ _ ?_ (I _ _ ?_ (I _ _ ?_ (I _ _ ?_ (I _ _ ?_ ?_))))))))))))
 ·split
  ·exact ok _ _
  ·exact er _ _ (by decide)
 ·refine B (h _ _ _ _) fun a=>B (h _ _ _ _) fun b=>?_;unfold Db;exact I _ _ (I _ _ (ok _ _) (er _ _ (by decide))) (I _ _ (I _ _ (ok _ _) (I _ _ (ok _ _) (I _ _ (ok _ _) (ok _ _)))) (er _ _ (by decide)))
 ·exact B (C.boolX (h _ _ _ _)) fun a=>I _ _ (ok _ _) (B (C.boolX (h _ _ _ _)) fun b=>ok _ _)
 ·exact B (C.boolX (h _ _ _ _)) fun a=>ok _ _
 ·exact B (C.boolX (h _ _ _ _)) fun a=>I _ _ (h _ _ _ _) (h _ _ _ _)
 ·exact B (h _ _ _ _) fun v=>h _ _ _ _
 ·unfold tA;exact I _ _ (I _ _ (B (C.listX (fun e=>h _ _ _ e) _) fun vs=>I _ _ (ok _ _) (er _ _ (by decide))) (er _ _ (by decide))) (er _ _ (by decide))
 ·refine B (h _ _ _ _) fun v=>?_;split
  ·exact I _ _ (ok _ _) (er _ _ (by decide))
  ·exact er _ _ (by decide)
 ·unfold zK;simp only;split
  ·exact er _ _ (by decide)
  ·rename_i f hf;obtain⟨h1,h2,h3⟩:=rH hf;exact I _ _ (I _ _ (B (C.listX (fun e=>h _ _ _ e) _) fun l=>C.enter _ _ _ _ _ h1 h2 h3 h) (er _ _ (by decide))) (er _ _ (by decide))
 ·unfold CF;exact B (h _ _ _ _) fun v=>I _ _ (I _ _ (C.act _ _ _) (er _ _ (by decide))) (er _ _ (by decide))
 ·unfold Eg;split
  ·exact er _ _ (by decide)
  ·rename_i ho;exact I _ _ (er _ _ (by decide)) (I _ _ (B (h _ _ _ _) fun v=>C.set _ _ _ ho) (C.get _ _))
theorem Closed.eval:∀(n:Nat)(o:Int)(ns:List bO)(vs:List Val)(e:Exp),Q o Val (zQ p n o ns vs e)
 |0,_,_,_,_=>C.er _ _ _ (by decide)
 |n+1,o,ns,vs,e=>C.step (fun o ns vs e=>Closed.eval n o ns vs e) o ns vs e
end
end Go.Av.Ap
namespace Go.Av.Ap
end Go.Av.Ap
namespace Go.Av.Ap
open Go Go.Av
mutual
def nM:Ty->Ty->Option Ty
 |.mk k fs,b=>if k=b.kind then some (.mk k (fB fs b.fields))else none
def fB:List (bO×Ty)->List bv->List bv
 |[],_=>[]
 |f:: fs,l=>(match xG f l with|some x=>[x]|none=>[])++fB fs l
def xG:bO×Ty->List bv->Option bv
 |(n,t),l=>match bY (fun z=>z.1== n) l with
  |some z=>(match nM t z.2 with|some u=>some (n,u)|none=>none)
  |none=>none
end
def eK(l:List bO)(s:bO):Int:=bE (fun x=>s== x) l 0
def gu:Nat->Ty->Val->Bool
 |0,_,_=>false
 |d+1,t,v=>t.kind== v.kind&&t.fields.all fun f=>decide (0<=eK v.names f.1)&&gu d f.2 v.values[(eK v.names f.1).toNat]!
def dn(t:Ty)(v:Val):Bool:=bd t&&(cE 4 v&&gu 4 t v)
theorem cX:(a:bO)->aC a a=false
 |[]=>rfl
 |x:: a=>by simp[aC,cX a]
theorem cM:(a b c:bO)->aC a b=true->aC b c=true->aC a c=true
 |_,[],c,h,_=>by cases ‹bO› <;> simp[aC]at h
 |_,_:: _,[],_,h=>by simp[aC]at h
 |[],_:: _,_:: _,_,_=>by simp[aC]
 | x:: a,y:: b,z:: c,h1,h2=>by
  simp only[aC,G9,F8,Ge,GU,UInt8.lt_iff_toNat_lt]at h1 h2 |-;rcases h1 with h1|⟨rfl,h1⟩
  ·rcases h2 with h2|⟨rfl,h2⟩
   ·exact .inl (by omega)
   ·exact .inl h1
  ·rcases h2 with h2|⟨rfl,h2⟩
   ·exact .inl h2
   ·exact .inr ⟨rfl,cM a b c h1 h2⟩
theorem fe:(a b:bO)->aC a b=false->a≠b->aC b a=true
 |[],[],_,h=>absurd rfl h
 |[],_:: _,h,_=>by simp[aC]at h
 |_:: _,[],_,_=>by simp[aC]
 | x:: a,y:: b,h1,h2=>by
  simp only[aC,Ht,Hv,G9,F8,Ge,GU,UInt8.lt_iff_toNat_lt]at h1 |-;by_cases e:x=y
  ·subst e;refine .inr ⟨rfl,fe a b ?_ fun e=>h2 (by rw[e])⟩;simpa using h1.2
  ·refine .inl ?_;have:x.toNat≠y.toNat:=fun e'=>e (UInt8.toNat_inj.1 e');omega
def fE(p f:bO):dA p f=true↔aC p f=true:=by
 unfold dA;rw[GW,Ht];constructor
 ·rintro⟨h1,h2⟩;exact fe f p h1 (Ho.1 h2)
 ·intro h;refine⟨?_,?_⟩
  ·cases hc:aC f p with
   |false=>rfl
   |true=>exact absurd (cM _ _ _ h hc) (by simp[cX])
  ·rw[Ho];rintro rfl;rw[cX]at h;cases h
theorem gJ{α:Type}{Q:α->α->Bool}{nm:α->bO}(hQ:∀x y,Q x y=true->aC (nm x) (nm y)=true):(l:List α)->gh Q l=true->l.Pairwise fun x y=>aC (nm x) (nm y)=true
 |[],_=>.nil
 |[x],_=>by simp
 |x:: y:: r,h=>by
  simp only[gh,F8]at h;have ih:=gJ hQ (y:: r) h.2;refine .cons (fun z hz=>?_) ih;have h1:=hQ _ _ h.1;rcases Gt.1 hz with rfl|hz
  ·exact h1
  ·exact cM _ _ _ h1 ((HK.1 ih).1 z hz)
def wm{t:Ty}{f:bv}(h:f∈t.fields):SizeOf.sizeOf f.2<SizeOf.sizeOf t:=by
 cases t with
 |mk k fs=>
  have h1:SizeOf.sizeOf f<SizeOf.sizeOf fs:=HP h;obtain⟨n,u⟩:=f;simp only[HV]at h1;simp only[Ty.mk.sizeOf_spec];omega
end Go.Av.Ap
namespace Go.Av.Ap
open Go Go.Av
section
variable {α:Type} {f:α->AV} {sz:Nat}
def rowOf(f:α->AV)(l:List α):List AV:=(l.map f).flatMap ae
theorem dR(x:α)(l:List α):rowOf f (x:: l)=ae (f x)++rowOf f l:=by simp[rowOf]
theorem cD(hs:∀x,(ae (f x)).length=sz):(l:List α)->(rowOf f l).length=l.length*sz
 |[]=>by simp[rowOf]
 |x:: l=>by rw[dR,Gf,hs,cD hs l,Gu,IF];omega
theorem ee(hs:∀x,(ae (f x)).length=sz):(l:List α)->(i:Nat)->(h:i<l.length)->((rowOf f l).drop (i*sz)).take sz=ae (f l[i])
 |x:: l,0,_=>by
  rw[dR,HO,It,HX (hs x)];rfl
 |x:: l,i+1,h=>by
  rw[dR,show (i+1)*sz=(ae (f x)).length+i*sz by rw[hs,IF];omega,List.drop_append,G0 (by omega),IK,GQ];simpa using ee hs l i (by simpa using h)
end
end Go.Av.Ap
namespace Go.Av.Ap
open Go Go.Av
mutual
def eo:Ty->Val->Prop
 |.mk k fs,v=>v.kind=k/\(fs≠[]->k=2)/\pR fs v
def pR:List (bO×Ty)->Val->Prop
 |[],_=>True
 |f:: fs,v=>fJ f v/\pR fs v
def fJ:bO×Ty->Val->Prop
 |(n,t),v=>∃x,e7 v.names v.values n=some x/\eo t x
end
theorem gQ(v:Val):(fs:List bv)->(pR fs v↔∀f∈fs,fJ f v)
 |[]=>by simp[pR]
 |f:: fs=>by simp[pR,gQ v fs]
def gx(f:bv)(v:Val):fJ f v↔∃x,e7 v.names v.values f.1=some x/\eo f.2 x:=by
 obtain⟨n,t⟩:=f;simp only[fJ]
def lz(t:Ty)(v:Val):eo t v↔v.kind=t.kind/\(t.fields≠[]->t.kind=2)/\∀f∈t.fields,∃x,e7 v.names v.values f.1=some x/\eo f.2 x:=by
 cases t with
 |mk k fs=>simp only[eo,gQ,gx,Ty.kind,Ty.fields]
theorem iF{α:Type}{p:α->Bool}:{l:List α} ->{z:α} ->bY p l=some z->z∈l/\p z=true
 |[],z,h=>by cases h
 | x:: l,z,h=>by
  simp only[bY]at h;split at h
  ·rename_i y hy;cases h
   have:=iF hy
   exact⟨GV _ this.1,this.2⟩
  ·cases hx:p x with
   |true=>
    rw[hx]at h;cases h;exact⟨Hf,hx⟩
   |false=>rw[hx]at h;cases h
theorem na:∀(d:Nat)(a b:Ty)(v:Val),a6 d b=true->gl a b=true->eo a v->eo b v
 |0,_,_,_,h,_,_=>by cases h
 | d+1,a,b,v,h,hb,hv=>by
  rw[bM]at h;rw[mS]at hb;rw[lz]at hv |-;simp only[F8,Gk,GU,G9]at h hb;refine⟨hv.1.trans hb.1,fun hf=>?_,fun f hf=>?_⟩
  ·rcases h.1.2 with h1|h1
   ·exact h1
   ·exact absurd (Gz h1) hf
  ·have h1:=hb.2 f hf;split at h1
   ·rename_i z hz;have h2:=iF hz;obtain⟨x,h3,h4⟩:=hv.2.2 z h2.1;rw[GU.1 h2.2]at h3;exact⟨x,h3,na d z.2 f.2 x (h.2.1 f hf).2 h1 h4⟩
   ·cases h1
def qP{f:bv}{l:List bv}{g:bv}(h:xG f l=some g):g.1=f.1/\∃z,z∈l/\z.1=f.1/\nM f.2 z.2=some g.2:=by
 obtain⟨n,t⟩:=f;simp only[xG]at h;split at h
 ·rename_i z hz;split at h
  ·rename_i u hu;cases h
   have:=iF hz
   exact⟨rfl,z,this.1,GU.1 this.2,hu⟩
  ·cases h
 ·cases h
theorem mi(l:List bv)(g:bv):(fs:List bv)->g∈fB fs l->∃f∈fs,xG f l=some g
 |[],h=>by simp[fB]at h
 | f:: fs,h=>by
  simp only[fB,Gx]at h;rcases h with h|h
  ·split at h
   ·rename_i x hx;simp only[Hs]at h;exact⟨f,Hf,by rw[hx,h]⟩
   ·cases h
  ·obtain⟨f',h1,h2⟩:=mi l g fs h;exact⟨f',GV _ h1,h2⟩
def zg{a b u:Ty}(h:nM a b=some u):a.kind=b.kind/\u.kind=a.kind/\∀g∈u.fields,∃f∈a.fields,∃z∈b.fields,g.1=f.1/\z.1=f.1/\nM f.2 z.2=some g.2:=by
 cases a with
 | mk k fs=>
  simp only[nM]at h;split at h
  ·rename_i hk;cases h;refine⟨hk,rfl,fun g hg=>?_⟩;obtain⟨f,h1,h2⟩:=mi _ g fs hg;obtain⟨h3,z,h4,h5,h6⟩:=qP h2;exact⟨f,h1,z,h4,h3,h5,h6⟩
  ·cases h
def oi(a:Ty)(b u:Ty)(h:nM a b=some u)(v:Val):(eo a v->eo u v)/\(eo b v->eo u v):=by
 obtain⟨h1,h2,h3⟩:=zg h;constructor
 ·intro hv;rw[lz]at hv |-;refine⟨hv.1.trans h2.symm,fun hf=>?_,fun g hg=>?_⟩
  ·obtain⟨g,hg⟩:=ID _ hf;obtain⟨f,hf',_⟩:=h3 g hg;rw[h2];exact hv.2.1 (List.ne_nil_of_mem hf')
  ·obtain⟨f,hf,z,hz,e1,e2,e3⟩:=h3 g hg;obtain⟨x,g1,g2⟩:=hv.2.2 f hf
   have:=wm hf
   exact⟨x,by rw[e1];exact g1,(oi f.2 z.2 g.2 e3 x).1 g2⟩
 ·intro hv;rw[lz]at hv |-;refine⟨hv.1.trans (h1.symm.trans h2.symm),fun hf=>?_,fun g hg=>?_⟩
  ·obtain⟨g,hg⟩:=ID _ hf;obtain⟨f,_,z,hz,_⟩:=h3 g hg;rw[h2,h1];exact hv.2.1 (List.ne_nil_of_mem hz)
  ·obtain⟨f,hf,z,hz,e1,e2,e3⟩:=h3 g hg;obtain⟨x,g1,g2⟩:=hv.2.2 z hz
   have:=wm hf
   exact⟨x,by rw[e1,<- e2];exact g1,(oi f.2 z.2 g.2 e3 x).2 g2⟩
termination_by SizeOf.sizeOf a
mutual
def Bt:Exp->List Exp
 |.mk o n s m ns es=>.mk o n s m ns es:: tk es
def tk:List Exp->List Exp
 |[]=>[]
 |e:: es=>Bt e++tk es
end
end Go.Av.Ap
namespace Go.Av
open Go
section
variable {F:Fence} {n:Nat} {P:Program} {w w':World} {ops:Array Oper} {rest:List Oper} {o:Oper} {a:Act} {Q:Exit->Act->World->Prop} {v:Value}
end
end Go.Av
namespace Go.Av.Ap
open Go Go.Av
def rP{T:TT}{t:Nat}{ti:TI}(ht:T t=some ti)(ha:ti.agg=true){h:Hp}{l k:Nat}{cs:List AV}(h0:h[l]? = some cs)(hle:k+ti.size<=cs.length):dH T t (.hp l k) h= .ok (.agg ((cs.drop k).take ti.size)) h:=by
 simp[dH,ht,h0,ha,hle]
def zb{T:TT}{t:Nat}{ti:TI}(ht:T t=some ti){h:Hp}{l k:Nat}{cs:List AV}{v:AV}(h0:h[l]? = some cs)(hv:bo ti.size v=true)(hle:k+ti.size<=cs.length)(hp:0<ti.size):
  fS T t (.hp l k) v h= .ok (.tup []) (h.set l (setCells cs k (ae v))):=by
 simp[fS,ht,h0,hv,hle,hp]
def C7{T:TT}{t e:Nat}{ti ei:TI}(ht:T t=some ti)(hk:ti.kind= .slice e)(he:T e=some ei){x:AV}(hx:bo ei.size x=true)(hb:0<ei.bytes)(hs:0<ei.size)(hc:ei.bytes<=140737488355328)(h:Hp):
  appH T t false .hn (.sl [x]) h= .ok (.hs h.length 0 1 ei.size ei.agg) (h++[ae x]):=by
 have:b6 ei.size [x]=true:=by simp[b6,hx]
 simp[appH,ht,hk,he,fW,this,hb,hs,jl,hc]
def C8{T:TT}{t e:Nat}{ti ei:TI}(ht:T t=some ti)(hk:ti.kind= .slice e)(he:T e=some ei){x:AV}(hx:bo ei.size x=true)(hb:0<ei.bytes)(hs:0<ei.size){h:Hp}{q n:Nat}{cs:List AV}(h0:h[q]? = some cs)(hok:cs.all aE=true)(hl:cs.length=n*ei.size)(hn:0<n)(hc:(n+1)*ei.bytes<=140737488355328):appH T t false (.hs q 0 n ei.size ei.agg) (.sl [x]) h= .ok (.hs h.length 0 (n+1) ei.size ei.agg) ((h.set q [])++[cs++ae x]):=by
 have h1:b6 ei.size [x]=true:=by simp[b6,hx]
 have h2:List.all cs aE=true:=hok;have h3:0<n*ei.size:=HL hn hs;have h4:cs.take (n*ei.size)=cs:=by rw[<- hl];exact IJ
 simp only[appH,ht,hk,he,fW,h1,hb,hs,jl,h0,h2,hl,Iv,Iy,F9,HG,List.length_singleton,List.isEmpty_cons,Gd,H8,List.flatMap_nil,List.append_nil,h3,h4,Ga];rw[GX hc];simp
def tL(p:List Mod):List uT:=p.flatMap fun m=>m.funcs.map fun f=>(m.name,f.name)
theorem ud:∀ {n:Nat} {v:Val},cE n v=true->v.names.length=v.values.length/\v.names.length<=8/\∀x∈v.values,∃m,cE m x=true
 |0,v,h=>by simp[cE]at h
 | n+1,v,h=>by
  unfold cE at h;split at h
  ·simp only[F8,GU]at h;have h1:v.values=[]:=H6.1 h.1.2;refine⟨by omega,by omega,fun x hx=>by rw[h1]at hx;cases hx⟩
  ·simp only[F8,GU,Ge,Gk]at h;exact⟨h.1.1.1.2,h.1.1.2,fun x hx=>⟨n,h.2 x hx⟩⟩
theorem ke{s:bO}:∀(ns:List bO)(vs:List Val)(i:Int),ns.length=vs.length->0<=i->(bE (fun x=>s== x) ns i= -1/\e7 ns vs s=none)\/∃k:Nat,bE (fun x=>s== x) ns i=i+k/\k<vs.length/\e7 ns vs s=vs[k]?
 |[],[],_,_,_=>.inl ⟨rfl,rfl⟩
 | n:: ns,v:: vs,i,h,hi=>by
  by_cases hn:n=s
  ·subst hn;exact .inr ⟨0,by simp[bE],by simp,by simp[e7]⟩
  ·have hn':¬(s== n)=true:=by simpa using fun e=>hn e.symm
   rcases ke (s:=s) ns vs (i+1) (by simpa using h) (by omega)with⟨h1,h2⟩|⟨k,h1,h2,h3⟩
   ·exact .inl ⟨by simp only[bE];rw[if_neg hn',h1],by simp[e7,hn,h2]⟩
   ·exact .inr ⟨k+1,by simp only[bE];rw[if_neg hn',h1];omega,by simpa using h2,by simp[e7,hn,h3]⟩
 |[],_:: _,_,h,_=>by simp at h
 |_:: _,[],_,h,_=>by simp at h
theorem jw:∀(d:Nat)(t:Ty)(n:Nat)(v:Val),a6 d t=true->cE n v=true->(gu d t v=true↔eo t v)
 |0,_,_,_,h,_=>by cases h
 | d+1,t,n,v,h,hv=>by
  have hr:=h;rw[bM]at hr;simp only[F8,Gk,G9,GU]at hr;obtain⟨hl,_,hk⟩:=ud hv;obtain⟨k,fs⟩:=t;rw[show gu (d+1) (Ty.mk k fs) v=(k== v.kind&&fs.all fun f=>decide (0<=eK v.names f.1)&&gu d f.2 v.values[(eK v.names f.1).toNat]!)from rfl];simp only[eo,gQ,F8,GU,Gk,Ge];have key:∀f∈fs,(0<=eK v.names f.1/\gu d f.2 v.values[(eK v.names f.1).toNat]! = true)↔fJ f v:=by
   intro f hf;rw[gx];unfold eK;rcases ke (s:=f.1) v.names v.values 0 hl (Int.le_refl _)with⟨h1,h2⟩|⟨j,h1,h2,h3⟩
   ·rw[h1,h2];exact⟨fun h=>absurd h.1 (by decide),fun⟨x,h,_⟩=>by cases h⟩
   ·rw[h1,h3,Int.zero_add,G6,G1 v.values j h2,Gm h2];obtain⟨m,hm⟩:=hk _ (GC h2);have ih:=jw d f.2 m v.values[j] (hr.2.1 f hf).2 hm;exact⟨fun h=>⟨_,rfl,ih.1 h.2⟩,fun⟨x,hx,hh⟩=>by cases hx;exact⟨by omega,ih.2 hh⟩⟩
  refine⟨fun⟨h1,h2⟩=>⟨h1.symm,fun hne=>?_,fun f hf=>(key f hf).1 (h2 f hf)⟩,fun⟨h1,_,h3⟩=>⟨h1.symm,fun f hf=>(key f hf).2 (h3 f hf)⟩⟩;rcases hr.1.2 with h|h
  ·exact h
  ·exact absurd (Gz h) hne
def fk{t:Ty}{v:Val}(h:dn t v=true):eo t v:=by
 simp only[dn,F8]at h;exact (jw 4 t 4 v h.1 h.2.1).1 h.2.2
def gy{t:Ty}{v:Val}(ht:bd t=true)(hv:cE 4 v=true)(h:eo t v):dn t v=true:=by
 simp only[dn,F8];exact⟨ht,hv,(jw 4 t 4 v ht hv).2 h⟩
def BQ(a b:Ty):nM a b=if a.kind=b.kind then some (.mk a.kind (fB a.fields b.fields))else none:=by cases a;rfl
theorem sA(z:bv)(l:List bv):xG z l=match bY (fun x=>x.1== z.1) l with
  |some x=>(match nM z.2 x.2 with|some u=>some (z.1,u)|none=>none)
  |none=>none:=by
 obtain⟨n,t⟩:=z;simp only[xG]
 all_goals (
  cases bY (fun z:bv=>z.1== n) l with
  |none=>rfl
  |some x=>cases nM t x.2<;>rfl)
mutual
def Fw:Ty->Exp
 |.mk k fs=>if k=0 then .mk 0 0 [] [] [] []else if k=1 then .mk 1 0 [] [] [] []else .mk 13 0 [] [] (fs.map (·.1)) (zZ fs)
def zZ:List (bO×Ty)->List Exp
 |[]=>[]
 |f:: fs=>Fx f:: zZ fs
def Fx:bO×Ty->Exp
 |(_,t)=>Fw t
end
def pd{l:List bv}(h:(l.map (·.1)).Pairwise fun a b=>aC a b=true):gh (fun a b:bv=>dA a.1 b.1) l=true:=by
 induction l with
 |nil=>rfl
 | cons x l ih=>cases l with
  |nil=>rfl
  |cons y l=>
   simp only[GY]at h ih;obtain⟨h1,h2⟩:=HK.1 h;simp only[gh,F8];exact⟨(fE _ _).2 (h1 y.1 Hf),ih h2⟩
def qt{l:List bv}(h:gh (fun a b:bv=>dA a.1 b.1) l=true):(l.map (·.1)).Pairwise fun a b=>aC a b=true:=by
 rw[List.pairwise_map];exact gJ (nm:=fun f:bv=>f.1) (fun x y h=>(fE _ _).1 h) l h
theorem qQ(l:List bv):(fs:List bv)->((fB fs l).map (·.1)).Sublist (fs.map (·.1))
 |[]=>by simp[fB]
 | f:: fs=>by
  have ih:=qQ l fs;simp only[fB,Im,GY];cases h:xG f l with
  |none=>exact ih.cons _
  |some g=>
   have e:=(qP h).1;simp only[GY,List.map_nil,List.singleton_append,e];exact ih.cons_cons _
theorem mj:(d:Nat)->(a b u:Ty)->a6 d a=true->nM a b=some u->a6 d u=true
 |0,_,_,_,h,_=>by cases h
 | d + 1,a,b,u,h,hu=>by
  rw[BQ]at hu;split at hu
  ·cases hu;rw[bM]at h|-;simp only[F8,Gk,Ge,G9,GU]at h|-;obtain⟨⟨⟨⟨g0,g1⟩,h3⟩,h6⟩,h4,h5⟩:=h;have hs:=qQ b.fields a.fields;have hl:(fB a.fields b.fields).length<=a.fields.length:=by
    have:=hs.length_le
    simpa using this
   refine⟨⟨⟨⟨g0,g1⟩,?_⟩,?_⟩,?_,?_⟩
   ·show (fB a.fields b.fields).length<=8;omega
   ·rcases h6 with h|h
    ·exact .inl h
    ·exact .inr (by show (fB a.fields b.fields).length=0;omega)
   ·intro g hg;obtain⟨f,hf,e⟩:=mi _ g _ hg;have e':=e;rw[sA]at e';split at e'
    ·rename_i z hz;split at e'
     ·rename_i v hv;cases e';exact⟨(h4 f hf).1,mj d f.2 z.2 v (h4 f hf).2 hv⟩
     ·cases e'
    ·cases e'
   ·exact pd ((qt h5).sublist hs)
  ·cases hu
mutual
def BG:Val->Bool
 |.mk _ _ ns vs=>ns.all l3&&tr vs
def tr:List Val->Bool
 |[]=>true
 |v:: l=>BG v&&tr l
end
mutual
def tG:Val->Prop
 |.mk _ n _ vs=>(-9223372036854775808<=n/\n<=9223372036854775807)/\oU vs
def oU:List Val->Prop
 |[]=>True
 |v:: l=>tG v/\oU l
end
theorem nd:∀l:List Val,oU l↔∀v∈l,tG v
 |[]=>by simp[oU]
 |v:: l=>by rw[oU,nd l];simp
def wz(v:Val):tG v↔(-9223372036854775808<=v.n/\v.n<=9223372036854775807)/\∀x∈v.values,tG x:=by
 cases v;rw[tG,nd];rfl
end Go.Av.Ap
namespace Go.Av.Ap
mutual
def D2:Ty->Ty->Bool
 |.mk k fs,.mk k' fs'=>k== k'&&xc fs fs'
def xc:List bv->List bv->Bool
 |[],[]=>true
 |f:: l,g:: m=>BL f g&&xc l m
 |_,_=>false
def BL:bO×Ty->bO×Ty->Bool
 |(s,t),(s',t')=>s== s'&&D2 t t'
end
mutual
def DZ:Exp->Exp->Bool
 |.mk o n s m ns es,.mk o' n' s' m' ns' es'=>o== o'&&n== n'&&s== s'&&m== m'&&ns== ns'&&xb es es'
def xb:List Exp->List Exp->Bool
 |[],[]=>true
 |f:: l,g:: m=>DZ f g&&xb l m
 |_,_=>false
end
def Ee{e:Ty}{x:bv}(h:x∈e.fields):SizeOf.sizeOf x.2<SizeOf.sizeOf e:=by
 cases e with
 |mk k fs=>
  have h1:=HP h;have h2:SizeOf.sizeOf x.2<SizeOf.sizeOf x:=by cases x;simp;omega
  have h3:SizeOf.sizeOf x<SizeOf.sizeOf fs:=h1;simp only[Ty.mk.sizeOf_spec];show SizeOf.sizeOf x.2<1+SizeOf.sizeOf k+SizeOf.sizeOf fs;omega
end Go.Av.Ap
namespace Go.Av.Ap
open Go Go.Av
def cv(p:bv×AV):AV:=.agg [.str p.1.1,.int .i64 p.1.2.kind,p.2]
theorem iQ(p:bv×AV):(ae (cv p)).length=3:=rfl
def cR(h:Hp):Nat->(Nat->Prop)->AV->List bv->Prop
 |0,_,fs,l=>fs= .hn/\l=[]
 |d+1,R,fs,l=>(fs= .hn/\l=[])\/∃(r:Nat)(ps:List (bv×AV)),ps≠[]/\ps.map (·.1)=l/\fs= .hs r 0 ps.length 3 true/\R r/\h[r]? = some (rowOf cv ps)/\∀p∈ps,cR h d (fun x=>R x/\x≠r) p.2 p.1.2.fields
def fN{h:Hp}{l:Nat}{cs:List AV}(H:h[l]? = some cs):l<h.length:=by
 rcases Gp l h.length with h1|h1
 ·exact h1
 ·rw[Gi h1]at H;cases H
theorem cR.mono:∀ {d:Nat} {h h':Hp} {R R':Nat->Prop} {fs:AV} {l:List bv},cR h d R fs l->(∀x,x<h.length->R x->R' x)->(∀x,x<h.length->R x->h'[x]? = h[x]?)->cR h' d R' fs l
 |0,_,_,_,_,_,_,H,_,_=>H
 | d+1,h,h',R,R',fs,l,H,hR,hh=>by
  rcases H with H|⟨r,ps,h1,h2,h3,h4,h5,h6⟩
  ·exact .inl H
  ·have hlt:=fN h5;exact .inr ⟨r,ps,h1,h2,h3,hR r hlt h4,by rw[hh r hlt h4];exact h5,fun p hp=>(h6 p hp).mono (fun x hx ⟨q1,q2⟩=>⟨hR x hx q1,q2⟩) (fun x hx ⟨q1,_⟩=>hh x hx q1)⟩
def cR.cell{d:Nat}{h:Hp}{R:Nat->Prop}{fs:AV}{l:List bv}(H:cR h d R fs l):aE fs=true:=by
 cases d with
 |zero=>rw[H.1];rfl
 | succ d => rcases H with⟨h1,_⟩|⟨r,ps,_,_,h3,_⟩
             ·rw[h1];rfl
             ·rw[h3];rfl
theorem cR.up:∀ {d:Nat} {h:Hp} {R:Nat->Prop} {fs:AV} {l:List bv},cR h d R fs l->cR h (d+1) R fs l
 |0,_,_,_,_,H=>.inl H
 |d+1,_,_,_,_,H=>H.imp id fun⟨r,ps,h1,h2,h3,h4,h5,h6⟩=>⟨r,ps,h1,h2,h3,h4,h5,fun p hp=>(h6 p hp).up⟩
def tB{ps:List (bv×AV)}(h:∀p∈ps,aE p.2=true):(rowOf cv ps).all aE=true:=by
 rw[Gk];intro y hy;simp only[rowOf,IG,H3]at hy;obtain⟨_,⟨p,hp,rfl⟩,hy⟩:=hy;have:y∈[AV.str p.1.1,.int .i64 p.1.2.kind,p.2]:=hy;simp only[Gt,List.not_mem_nil,or_false]at this;rcases this with rfl|rfl|rfl
 ·rfl
 ·rfl
 ·exact h p hp
theorem cR.frz:∀ {d n:Nat} {h:Hp} {R:Nat->Prop} {fs:AV} {l:List bv},cR h d R fs l->d<=n->Av.gO n h fs=be l
 |0,n,_,_,_,_,H,_=>by
  obtain⟨rfl,rfl⟩:=H;cases n<;>rfl
 |d+1,0,_,_,_,_,_,hn=>by omega
 | d + 1,n+1,h,R,fs,l,H,hn=>by
  rcases H with⟨rfl,rfl⟩|⟨r,ps,h1,h2,h3,h4,h5,h6⟩
  ·rfl
  ·subst h3;have hlen:(rowOf cv ps).length=ps.length*3:=cD iQ ps;show (match h[r]? with
    |some cs=>bif decide (0+ps.length*3<=cs.length)&&decide (0<3)&&(true||(Nat.beq 3 1&&cs.all aE))then AV.sl ((List.range ps.length).map fun i=>Av.gO n h (bif true then .agg ((cs.drop (0+i*3)).take 3)else ah cs (0+i*3)))else AV.any
    |none=>AV.any)=_
   rw[h5];simp only[hlen,GE,Ga,Iv,HC,Bool.true_or,F9,show (decide ((0:Nat)<3))=true from rfl];rw[<- h2];show AV.sl _=AV.sl _;congr 1;rw[dm,List.map_map];apply List.ext_getElem
   ·simp
   ·intro i a1 a2;have hi:i<ps.length:=by simpa using a1
    simp only[HR,List.getElem_range,Function.comp];rw[ee iQ ps i hi];have hp:=h6 ps[i] (GC hi);cases n with
    |zero=>
     have hd:d=0:=by omega
     subst hd;obtain⟨e1,e2⟩:=hp;rw[dB,e2];show AV.agg [.str _,.int .i64 _,cl aB ps[i].2]=_;rw[e1];rfl
    |succ n=>
     have e:=hp.frz (n:=n+1) (by omega);rw[dB,<- e];rfl
def my(h:Hp)(d:Nat)(a:AV)(t:Ty):Prop:=a=t.av\/∃fs,a= .agg [.int .i64 t.kind,fs]/\cR h d (fun _=>True) fs t.fields
def my.mono{h h':Hp}{d:Nat}{a:AV}{t:Ty}(H:my h d a t)(hh:∀x,x<h.length->h'[x]? = h[x]?):my h' d a t:=by
 rcases H with H|⟨fs,h1,h2⟩
 ·exact .inl H
 ·exact .inr ⟨fs,h1,h2.mono (fun _ _ _=>trivial) (fun x hx _=>hh x hx)⟩
def cq(h h':Hp):Prop:=h.length<=h'.length/\∀x,x<h.length->h'[x]? = h[x]?
def cq.refl(h:Hp):Ap.cq h h:=⟨Ga _,fun _ _=>rfl⟩
def cq.trans{a b c:Hp}(x:Ap.cq a b)(y:Ap.cq b c):Ap.cq a c:=⟨G5 x.1 y.1,fun k hk=>(y.2 k (by have:=x.1;omega)).trans (x.2 k hk)⟩
def cq.app(h t:Hp):Ap.cq h (h++t):=⟨by simp,fun x hx=>by rw[Gc hx]⟩
def cq.set{h h':Hp}(e:Ap.cq h h'){r:Nat}(hr:h.length<=r)(cs:List AV):Ap.cq h (h'.set r cs):=⟨by simp[e.1],fun x hx=>by rw[G7 (by omega)];exact e.2 x hx⟩
end Go.Av.Ap
