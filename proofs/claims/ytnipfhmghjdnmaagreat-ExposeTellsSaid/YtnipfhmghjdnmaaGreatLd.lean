/- The abstract evaluator of the model and plain laws, part 4: its soundness holds for every program whose table of types is the evaluator's. No further condition. -/
import Derived.Test.YtnipfhmghjdnmaaGreatLc
import Derived.ChangeSame
import Derived.OpenShut
import Derived.ChangeReads
import Derived.ReadAgain
import Derived.Deep.Slices
import Derived.WideShapes
import Derived.SizedLaws
set_option linter.defProp false
set_option linter.unusedSimpArgs false
set_option linter.unusedVariables false
namespace Go.Av.Ap
structure Ver where
 a:Int
 b:Int
 c:Int
 deriving DecidableEq,Inhabited
structure Rng where
 lo:Ver
 hi:Ver
 deriving DecidableEq,Inhabited
def Ver.av(v:Ver):AV:=.agg [.int .i64 v.a,.int .i64 v.b,.int .i64 v.c]
def Rng.av(r:Rng):AV:=.agg [.int .i64 r.lo.a,.int .i64 r.lo.b,.int .i64 r.lo.c,.int .i64 r.hi.a,.int .i64 r.hi.b,.int .i64 r.hi.c]
def ol(l:List Ver):AV:=.sl (l.map Ver.av)
def kF(l:List Rng):AV:=.sl (l.map Rng.av)
@[simp] theorem qF(v:Ver):aa v.av=[.int .i64 v.a,.int .i64 v.b,.int .i64 v.c]:=rfl
@[simp] theorem qD(r:Rng):aa r.av=[.int .i64 r.lo.a,.int .i64 r.lo.b,.int .i64 r.lo.c,.int .i64 r.hi.a,.int .i64 r.hi.b,.int .i64 r.hi.c]:=rfl
@[simp] theorem wO(v:Ver):AV.agg [.int .i64 v.a,.int .i64 v.b,.int .i64 v.c]=v.av:=rfl
@[simp] theorem wM(r:Rng):AV.agg [.int .i64 r.lo.a,.int .i64 r.lo.b,.int .i64 r.lo.c,.int .i64 r.hi.a,.int .i64 r.hi.b,.int .i64 r.hi.c]=r.av:=rfl
@[simp] theorem Ea(g:Nat->Nat->Nat->Nat->Bool->AV)(v:Ver):cl g v.av=v.av:=rfl
@[simp] theorem D9(g:Nat->Nat->Nat->Nat->Bool->AV)(v:Rng):cl g v.av=v.av:=rfl
@[simp] theorem Ay(g:Nat->Nat->Nat->Nat->Bool->AV)(l:List Ver):cl g (ol l)=ol l:=by simp[ol,cl,eX g Ver.av (Ea g)]
@[simp] theorem uC(g:Nat->Nat->Nat->Nat->Bool->AV)(l:List Rng):cl g (kF l)=kF l:=by simp[kF,cl,eX g Rng.av (D9 g)]
@[simp] theorem L1(v:Ver):cM v.av=some 3:=rfl
@[simp] theorem LZ(v:Rng):cM v.av=some 6:=rfl
@[simp] theorem rX(v:Ver):cE 3 v.av=true:=rfl
@[simp] theorem rW(v:Rng):cE 6 v.av=true:=rfl
@[simp] theorem KM(l:List Ver):dw 3 (l.map Ver.av)=true:=eb rX l
@[simp] theorem KJ(l:List Rng):dw 6 (l.map Rng.av)=true:=eb rW l
@[simp] theorem LK(v:Ver):aH (M.pure v.av)=M.pure v.av:=bb fun g=>Ea g v
@[simp] theorem LI(v:Rng):aH (M.pure v.av)=M.pure v.av:=bb fun g=>D9 g v
@[simp] theorem KD(v:List Ver):aH (M.pure (ol v))=M.pure (ol v):=bb fun g=>Ay g v
@[simp] theorem KB(v:List Rng):aH (M.pure (kF v))=M.pure (kF v):=bb fun g=>uC g v
@[simp high] theorem Ji(x:Ver):aK 3 x.av=M.pure x.av:=by rw[bG (rX x),qF,wO]
@[simp high] theorem Gq(x:Ver):ap 3 [] x.av=M.pure x.av:=by rw[bM (rX x),qF,wO]
@[simp high] theorem Jg(x:Rng):aK 6 x.av=M.pure x.av:=by rw[bG (rW x),qD,wM]
@[simp high] theorem Gn(x:Rng):ap 6 [] x.av=M.pure x.av:=by rw[bM (rW x),qD,wM]
structure Seen where
 prog:List Mod
 vsns:List Ver
 calls:List Call
 whole:Bool
 deriving Inhabited
structure Adv where
 id:Int
 name:bk
 ranges:List Rng
 func:bk
 cond:Exp
 deriving Inhabited
def Seen.av(s:Seen):AV:=.agg [mods s.prog,ol s.vsns,Ap.calls s.calls,.bool s.whole]
def Adv.av(a:Adv):AV:=.agg ([.int .i64 a.id,.str a.name,kF a.ranges,.str a.func]++a.cond.cells)
structure CallLim (c:Call):Prop where
 len:c.args.length<=140737488355328
 args:∀v∈c.args,v.Lim
structure Seen.Lim (s:Seen):Prop where
 len:s.prog.length<=140737488355328
 mods:∀m∈s.prog,m.Lim
 vsns:s.vsns.length<=140737488355328
 lenc:s.calls.length<=140737488355328
 calls:∀c∈s.calls,CallLim c
structure Adv.Lim (a:Adv):Prop where
 ranges:a.ranges.length<=140737488355328
 cond:a.cond.Lim
def io(l:List Seen):AV:=.sl (l.map Seen.av)
@[simp] theorem pn(s:Seen):aa s.av=[mods s.prog,ol s.vsns,Ap.calls s.calls,.bool s.whole]:=rfl
@[simp] theorem tx(s:Seen):AV.agg [mods s.prog,ol s.vsns,Ap.calls s.calls,.bool s.whole]=s.av:=rfl
@[simp] theorem ke(a:Adv):aa a.av=[.int .i64 a.id,.str a.name,kF a.ranges,.str a.func,.int .i64 a.cond.op,.int .i64 a.cond.n,.str a.cond.s,.str a.cond.m,strs a.cond.names,cb a.cond.args]:=by
 obtain⟨i,n,r,f,c⟩:=a;cases c;rfl
@[simp] theorem nz(a:Adv):AV.agg [.int .i64 a.id,.str a.name,kF a.ranges,.str a.func,.int .i64 a.cond.op,.int .i64 a.cond.n,.str a.cond.s,.str a.cond.m,strs a.cond.names,cb a.cond.args]=a.av:=by
 obtain⟨i,n,r,f,c⟩:=a;cases c;rfl
@[simp] theorem dS(g:Nat->Nat->Nat->Nat->Bool->AV)(s:Seen):cl g s.av=s.av:=by
 unfold Seen.av;simp only[cl,eV,ix,Ay,D8]
@[simp] theorem eM(g:Nat->Nat->Nat->Nat->Bool->AV)(a:Adv):cl g a.av=a.av:=by
 rw[<- nz];simp only[cl,eV,uC,nc,Gs]
@[simp] theorem wm(g:Nat->Nat->Nat->Nat->Bool->AV)(l:List Seen):cl g (io l)=io l:=by simp[io,cl,eX g Seen.av (dS g)]
@[simp] theorem KP(v:Seen):cM v.av=some 4:=rfl
@[simp] theorem oV(v:Seen):cE 4 v.av=true:=rfl
@[simp] theorem Kb(l:List Seen):dw 4 (l.map Seen.av)=true:=eb oV l
@[simp high] theorem wg(x:Seen):aK 4 x.av=M.pure x.av:=by rw[bG (oV x),pn,tx]
@[simp high] theorem ju(x:Seen):ap 4 [] x.av=M.pure x.av:=by rw[bM (oV x),pn,tx]
@[simp] theorem xI(v:Adv):cE 10 v.av=true:=by
 rw[<- nz];rfl
@[simp high] theorem yT(x:Adv):aK 10 x.av=M.pure x.av:=by rw[bG (xI x),ke,nz]
@[simp high] theorem Gh(x:Adv):ap 10 [] x.av=M.pure x.av:=by rw[bM (xI x),ke,nz]
end Go.Av.Ap
namespace Go.Av
variable [Dr]
open Go.RowKit
section
variable {S:aE} {β:List bT} {h:Hp} {w w':World}
omit [Dr]in
theorem da.below(hh:da S β w h){S':aE}(hb:∀b,b<w.heap.size->w'.heap[b]? = w.heap[b]? /\∀o,S' b o=S b o)(hle:S.le S'):da S' β w' h:=by
 obtain⟨hlen,ω,hr⟩:=hh;exact⟨hlen,ω,hr.rows hle (fm.refl β) hlen fun l cs hl _=>.inl ⟨hl,fun b hlt ho=>⟨ho,(hb b hlt).1,fun o h=>by rw[(hb b hlt).2];exact h⟩⟩⟩
theorem rG(hw:Wf S w)(hh:da S β w h)(hb:Below w.heap.size w w')(hd:Dr.on->w.drawn<=w'.drawn){S':aE}(hS:∀b,b<w.heap.size->∀o,S' b o=S b o)(hnew:∀b o v,w.heap.size<=b->S' b o=some v->w'.cell? ⟨b,o,none⟩=some v):
  Left (ct β h) S β w S' β w' h:=by
 have hle:S.le S':=fun b o v hv=>by rw[hS b (hw.lt hv)];exact hv
 refine⟨hle,fm.refl β,fun b o v hv=>?_,⟨hb.size,hb.os,hb.output,hb.tape,hd⟩,fun b hlt _=>⟨hb.block b hlt,hS b hlt⟩,hh.below (fun b hlt=>⟨hb.block b hlt,hS b hlt⟩) hle,fun b hb=>.inl hb⟩;rcases N7 b w.heap.size with hlt|hge
 ·rw[hS b hlt]at hv;rw[cell_of_heap (hb.block b hlt)];exact hw b o v hv
 ·exact hnew b o v hge hv
theorem lj(hw:Wf S w)(hh:da S β w h)(hb:Below w.heap.size w w')(hd:Dr.on->w.drawn<=w'.drawn){r:AV}{v:Value}(hv:VR S β r v):fc none S β h w (.ok r h) (.returned v) w':=
 ⟨S,β,v,rfl,hv,rG hw hh hb hd (fun _ _ _=>rfl) (fun b o v hge hv=>by have:=hw.lt hv;omega),fun sz hsz=>by cases hsz⟩
theorem BJ(hw:Wf S w)(hh:da S β w h)(hb:Below w.heap.size w w')(hd:Dr.on->w.drawn<=w'.drawn){n:Nat}{x:Array Value}(hr:Row w' n x)(hn:w.heap.size<=n){r:AV}{v:Value}(hv:VR (S.withRowTo n x.size x) β r v):fc none S β h w (.ok r h) (.returned v) w':=
 ⟨_,β,v,rfl,hv,rG hw hh hb hd (fun b hlt o=>by unfold aE.withRowTo;rw[if_neg (by omega)]) (fun b o v hge hv=>by
  by_cases hbn:b=n
  ·subst hbn;unfold aE.withRowTo at hv;rw[NE rfl]at hv;split at hv
   ·rw[hr.cell];exact hv
   ·cases hv
  ·unfold aE.withRowTo at hv;rw[if_neg hbn]at hv
   have:=hw.lt hv;omega),fun sz hsz=>by cases hsz⟩
theorem EQ(hw:Wf S w)(hh:da S β w h)(hb:Below w.heap.size w w')(hd:Dr.on->w.drawn<=w'.drawn){bo:Nat}{es:List AV}(hbo:w.heap.size<=bo)(hm:MapAt S β w' bo es):
  Left (ct β h) S β w S (β++[(bo,0)]) w' (h++[[.tup es]]):=by
 have hext:fm β (β++[(bo,0)]):=fun l b hb=>by rw[NJ (NO.1 hb).1];exact hb
 obtain⟨hlen,ω,hr⟩:=hh;have hω:∀b,b<w.heap.size->cY ω bo (.heap h.length) b=ω b:=fun b hb=>by
  unfold cY;rw[if_neg];rintro rfl;omega
 refine⟨aE.le_refl S,hext,fun b o v hv=>?_,⟨hb.size,hb.os,hb.output,hb.tape,hd⟩,fun b hlt _=>⟨hb.block b hlt,fun _=>rfl⟩,⟨by simp[hlen],cY ω bo (.heap h.length),fun l cs hl hne=>?_⟩,fun b hb=>?_⟩
 ·rw[cell_of_heap (hb.block b (hw.lt hv))];exact hw b o v hv
 ·rcases N7 l h.length with hlt|hge
  ·rw[NJ hlt]at hl;rcases hr l cs hl hne with⟨b,x,k1,k2,k3,k4,k5,k6⟩|⟨b,k1,k2,k3,k4⟩
   ·have hbl:=k2.lt;exact .inl ⟨b,x,hext _ _ k1,k2.of_eq (hb.block b hbl),by rw[hω b hbl];exact k3,k4.mono (aE.le_refl S) hext,k5,fun t ht=>by obtain⟨y,hy⟩:=k6 t ht;exact⟨y,(hb.block b hbl).trans hy⟩⟩
   ·have hbl:=k4.lt;refine .inr ⟨b,hext _ _ k1,by rw[hω b hbl];exact k2,k3,k4.keep (aE.le_refl S) hext (hb.block b hbl) fun j b' es' hj he=>?_⟩;have hjl:j<h.length:=by rw[<- hlen];exact (NO.1 hj).1
    rw[NJ hjl]at he;obtain⟨_,_,g1,_⟩:=hr.mapRow he hj;exact⟨he,hb.block b' (NT.1 g1).1⟩
  ·rw[N9 hge]at hl;have hlz:l=h.length:=by
    have:=(NO.1 hl).1
    simp at this;omega
   subst hlz;simp only[P0,Od,NB]at hl;subst hl;have hnew:(β++[(bo,0)])[h.length]? = some (bo,0):=by rw[<- hlen];simp
   obtain⟨ents,clock,m1,m2,m3⟩:=hm;exact .inr ⟨bo,hnew,by simp[cY],fun o=>hw.none hbo o,.inl ⟨es,rfl,ents,clock,m1,m2.mono (aE.le_refl S) hext,m3⟩⟩
 ·obtain⟨l,cs,n,k1,k2,k3⟩:=hb;rcases N7 l h.length with hlt|hge
  ·rw[NJ hlt]at k1;rw[NJ (by rw[hlen];exact hlt)]at k3;exact .inl ⟨l,cs,n,k1,k2,k3⟩
  ·have hl2:=(NO.1 k3).1;simp at hl2;have:l=β.length:=by omega
   subst this;simp at k3;exact .inr (by rw[<- k3.1];exact hbo)
theorem BI(hw:Wf S w)(hh:da S β w h)(hb:Below w.heap.size w w')(hd:Dr.on->w.drawn<=w'.drawn){bo:Nat}{es:List AV}(hbo:w.heap.size<=bo)(hm:MapAt S β w' bo es):
  fc none S β h w (.ok (.mp h.length) (h++[[.tup es]])) (.returned (.map (some bo))) w':=
 ⟨S,β++[(bo,0)],_,rfl,by simp only[VR];exact⟨(bo,0),by rw[<- hh.1];simp,rfl,rfl⟩,EQ hw hh hb hd hbo hm,fun sz hsz=>by cases hsz⟩
end
end Go.Av
namespace Go.Av
variable [Dr]
open Go.RowKit Go.WideShapes Go.ChangeShapes
theorem Left.below{S S':aE}{β β':List bT}{w w':World}{h':Hp}(L:Left (ct [] []) S β w S' β' w' h'):Below w.heap.size w w':=
 ⟨L.gro.os,L.gro.tape,L.gro.out,L.gro.size,fun k hk=>(L.keep k hk (by rintro⟨l,_,_,h1,_⟩;simp at h1)).1⟩
def mA(W:World):aE:=fun b o=>W.cell? ⟨b,o,none⟩
omit [Dr]in
theorem F7(W:World):Wf (mA W) W:=fun _ _ _ h=>h
omit [Dr]in
theorem BV{W:World}(h:kU W):yD [] [] W:=⟨h,fun b _ ho=>by obtain⟨l,_,_,h1,_⟩:=ho;simp at h1⟩
theorem B6{P:Program}{p:Pg}(G:GoodPg P p)(hO:ey p){f:FuncId}{args:List AV}{vs:List Value}{W:World}(hg:kU W)(hv:bC (mA W) [] args vs)(ht:ai p f args []= .ok (.bool true) []):Calls P f vs.toArray W fun e W'=>e= .returned (.bool true)/\Below W.heap.size W W':=by
 have h:=(pu G hO f args [] (mA W) [] W vs (by rw[ht];simp) (BV hg) (F7 W) ⟨rfl,fun _=>.no,fun l cs hl=>by simp at hl⟩ hv).1;rw[ht]at h;refine h.mono fun e W' hp=>?_;obtain⟨S',β',v,rfl,hv,L,_⟩:=hp;simp only[VR]at hv;subst hv;exact⟨rfl,L.below⟩
section
variable {H:Type} {enc:TypeId×Value->H} {P:Program}
omit [Dr]in
theorem sU{f:Func}{s:ChangeSpec}{apart fresh handsOn again:Bool}{W W':World}{args:Array Value}{v:Value}{ds gs:List (DataW H)}{before pa pv:List MemPlace}(hW:DataW.Whole enc P f.params.toList s.vars apart W args.toList ds gs before)(hres:∀(b:Nat)(sp:Nat->Bool)(hd:Bool),DataW.TrodAll enc P W' b sp hd f.resultTypes.toList (v.resultList f.resultTypes.size) (s.fn H (ds++gs)).results [])(hargs:∀sp:Nat->Bool,(∀p∈before,sp p.block=true)->DataW.TrodAll enc P W' 0 sp true f.params.toList args.toList (s.fn H (ds++gs)).args pa)(hvars:∀sp:Nat->Bool,(∀p∈before,sp p.block=true)->DataW.TrodVars enc P W' sp s.vars (s.fn H (ds++gs)).vars pv)(hps:before=pa++pv)(hb:Below W.heap.size W W')(hok:∀(j:Nat)(t:TypeId)(r:Value),f.resultTypes[j]? = some t->(v.resultList f.resultTypes.size)[j]? = some r->Value.okWide P W' .any 0 t r):
  s.post enc P f apart fresh handsOn again W args v W':=by
 have hlt:∀p∈before,p.block<W.heap.size:=fun p hp=>hW.lt p hp;have hold:∀p∈before,(fun b=>decide (b<W.heap.size)) p.block=true:=fun p hp=>by simpa using hlt p hp
 refine⟨ds,gs,before,[],pa,pv,hW,hres _ _ _,hargs _ hold,hvars _ hold,World.keptBut_mono (fun p hp=>⟨hp,?_⟩) (hb.frame (· ∈before)),fun _=>?_⟩
 ·rw[hps,N6]at hp;exact Or.inr hp
 ·obtain⟨_,_,_,_,_,hz,hn⟩:=hW;refine⟨hok,_,_,([]++pa)++pv,⟨[]++pa,pv,trodAll_append (hargs _ (fun _ _=>rfl)) (hres _ _ _),hvars _ (fun _ _=>rfl),rfl,?_,?_⟩,?_⟩
  ·intro b off hp;have hin:MemPlace.cell b off∈before:=by rw[hps];simpa using hp
   rw[hb.frozen (hlt _ hin)];exact hz b off hin
  ·intro ha
   have:=hn ha
   rw[hps]at this;simpa using this
  ·intro p hp _;rw[hps];simpa using hp
end
end Go.Av
namespace Go.Av
variable [Dr]
omit [Dr]in
theorem da.grow{S:aE}{β:List bT}{w w':World}{h:Hp}(hh:da S β w h)(hb:∀b,b<w.heap.size->w'.heap[b]? = w.heap[b]?):da S β w' h:=by
 obtain⟨hlen,ω,hr⟩:=hh;exact⟨hlen,ω,hr.rows (aE.le_refl S) (fm.refl β) hlen fun l cs hl _=>.inl ⟨hl,fun b hb' ho=>⟨ho,hb b hb',fun o h=>h⟩⟩⟩
omit [Dr]in
theorem da.low{S:aE}{β:List bT}{w:World}{h:Hp}(hh:da S β w h){b:Nat}(hb:ct β h b):b<w.heap.size:=by
 obtain⟨_,ω,hr⟩:=hh;obtain⟨l,cs,n,h1,h2,h3⟩:=hb;obtain⟨b',x,k1,k2,_⟩:=hr.own h1 h2;rw[h3]at k1;cases k1;exact k2
omit [Dr]in
theorem Wf.grow{S:aE}{w w':World}(hw:Wf S w)(hb:∀b,b<w.heap.size->w'.heap[b]? = w.heap[b]?):Wf S w':=
 fun b o v hv=>by rw[cell_of_heap (hb b (hw.lt hv))];exact hw b o v hv
theorem tJ{S S':aE}{β β':List bT}{w w2 w' w'':World}{h h':Hp}(hg:Gro w w2)(hold:∀b,b<w.heap.size->w2.heap[b]? = w.heap[b]?)(L:Left (ct β h) S β w2 S' β' w' h')(hg':Gro w' w'')(hsame:∀b,¬(w.heap.size<=b/\b<w2.heap.size)->w''.heap[b]? = w'.heap[b]?)(hw:Wf S w)(hh:da S β w h):Left (ct β h) S β w S' β' w'' h':=by
 have hs:=hg.size;refine⟨L.le,L.ext,fun b o v hv=>?_,(hg.trans L.gro).trans hg',fun b hb hE=>?_,?_,fun b hb=>?_⟩
 ·by_cases hb:w.heap.size<=b/\b<w2.heap.size
  ·have hE:¬ct β h b:=fun ho=>by have:=hh.low ho;omega
   have:=(L.keep b hb.2 hE).2 o
   rw[this,hw.none hb.1]at hv;cases hv
  ·rw[cell_of_heap (hsame b hb)];exact L.wf b o v hv
 ·have h1:=L.keep b (by omega) hE;exact⟨by rw[hsame b (by omega),h1.1,hold b hb],h1.2⟩
 ·obtain⟨hlen,ω,hr⟩:=L.heap;refine⟨hlen,ω,hr.rowsA (aE.le_refl S') (fm.refl β') hlen fun l cs hl hne=>.inl ⟨hl,fun b _ ⟨n,h1⟩ h3=>⟨h3,hsame b fun hb=>?_,fun o h=>h⟩⟩⟩;rcases L.owned b ⟨l,cs,_,hl,hne,h1⟩with ho|ho
  ·have:=hh.low ho;omega
  ·omega
 ·rcases L.owned b hb with ho|ho
  ·exact .inl ho
  ·exact .inr (by omega)
theorem Gro.setCell(w:World)(a:Addr)(v:Value):Gro w (w.setCell a v):=⟨by simp,rfl,rfl,rfl,fun _=>NL _⟩
omit [Dr]in
theorem fV{w:World}{a:Addr}{v:Value}{b:Nat}(h:b≠a.block):(w.setCell a v).heap[b]? = w.heap[b]?:=by
 simp only[World.setCell,P3];rw[if_neg (fun e=>h e.symm)]
end Go.Av
namespace Go.Av
open Go.RowKit
section
variable {H:Type} {enc:TypeId×Value->H} {P:Program} {w w':World}
theorem ml{base:Nat}{spare:Nat->Bool}{held:Bool}:∀ {ts:List TypeId} {vs:List Value} {ds:List (DataW H)} {ps:List MemPlace},DataW.TrodAll enc P w base spare held ts vs ds ps->(∀p∈ps,w.sameAt w' p)->DataW.TrodAll enc P w' base spare held ts vs ds ps
 |[],[],[],_,h,_=>h
 |_:: _,_:: _,_:: _,_,⟨p,q,⟨n,h1⟩,h2,e⟩,hs=>⟨p,q,⟨n,DataW.trod_carry n _ _ _ h1 (fun x hx=>hs x (by rw[e];exact P6 _ hx))⟩,ml h2 (fun x hx=>hs x (by rw[e];exact List.mem_append_right _ hx)),e⟩
theorem vz(hb:Below w.heap.size w w'){p:MemPlace}(hp:p.block<w.heap.size):w.sameAt w' p:=by
 cases p with
 |cell b off=>
  have:=hb.block b hp
  show w'.cell? ⟨b,off,none⟩=w.cell? ⟨b,off,none⟩;simp only[World.cell?,this]
 |map b=>exact hb.block b hp
theorem yK{T:TypeId->Prop}(K:Kids P T)(hz:∀t e,T t->P.underlying t=some (.slice e)->0<P.cellsOf e){ts:List TypeId}{vs:List Value}{ds:List (DataW H)}{ps:List MemPlace}(hT:∀t∈ts,T t)(h:DataW.TrodAll enc P w 0 (fun _=>true) true ts vs ds ps)(hlt:∀p∈ps,p.block<w.heap.size)(hb:Below w.heap.size w w')(sp:Nat->Bool)(hsp:∀p∈ps,sp p.block=true):DataW.TrodAll enc P w' 0 sp true ts vs ds ps:=
 (ml h fun p hp=>vz hb (hlt p hp)).respare K hz hT hsp
end
theorem AP{α:Type}(Q:Nat->α->Prop):∀n,(∀i,i<n->∃x,Q i x)->∃l:List α,l.length=n/\∀i x,l[i]? = some x->Q i x
 |0,_=>⟨[],rfl,fun i x h=>by simp at h⟩
 | n+1,h=>by
  obtain⟨l,h1,h2⟩:=AP Q n fun i hi=>h i (by omega);obtain⟨y,hy⟩:=h n (by omega);refine⟨l++[y],by simp[h1],fun i x hx=>?_⟩;by_cases hi:i<n
  ·rw[NJ (by omega)]at hx;exact h2 i x hx
  ·rw[N9 (by omega)]at hx;have hin:i-l.length=0:=by
    rcases ON (i-l.length)with h|h
    ·exact h
    ·rw[NX (by simp;omega)]at hx;cases hx
   rw[hin]at hx;simp only[Od,NB]at hx;subst hx;obtain rfl:i=n:=by omega
   exact hy
end Go.Av
namespace Go.Av
open Go.RowKit Go.WideShapes Go.ChangeShapes
section
variable {H:Type} (enc:TypeId×Value->H) (P:Program) (W:World)
def Rd{α:Type}(N:Nat)(t:TypeId)(cells:α->List AV)(Ok:α->Prop):Prop:=∀(base:Nat)(held:Bool)(n:Nat),n<N->∀(cs:List Value)(x:DataW H×List MemPlace),DataW.trod enc P W base (fun _=>true) held n t cs=some x->(∀k∈x.1.weights P t,k<=reachBytes)->∃a:α,bC (mA W) [] (cells a) cs/\Ok a
def F6{α:Type}(N:Nat)(tot:Nat)(o:Nat)(fs:List Field)(cells:α->List AV)(Ok:α->Prop):Prop:=∀(base:Nat)(held:Bool)(n:Nat),n<N->∀(cs:List Value)(xs:List (DataW H×List MemPlace)),cs.length=tot->
 xs.length=fs.length->(∀(i:Nat)(f:Field),fs[i]? = some f->DataW.trod enc P W base (fun _=>true) held n f.type ((cs.drop f.offset).take (P.cellsOf f.type))=xs[i]?)->(∀k∈DataW.weightsEach P (fs.map (·.type)) (xs.map (·.1)),k<=reachBytes)->∃a:α,bC (mA W) [] (cells a) (cs.drop o)/\Ok a
variable {enc P W} {α β:Type} {N:Nat} {t:TypeId}
theorem Rd.zero{cells:α->List AV}{Ok:α->Prop}:Rd enc P W 0 t cells Ok:=fun _ _ n hn=>absurd hn (by omega)
theorem Rd.le{cells:α->List AV}{Ok:α->Prop}(h:Rd enc P W N t cells Ok){M:Nat}(hm:M<=N):Rd enc P W M t cells Ok:=fun b hd n hn=>h b hd n (by omega)
theorem Rd.map{cells:α->List AV}{Ok:α->Prop}(h:Rd enc P W N t cells Ok)(g:α->β){cells':β->List AV}{Ok':β->Prop}(hc:∀a,cells' (g a)=cells a)(ho:∀a,Ok a->Ok' (g a)):Rd enc P W N t cells' Ok':=by
 intro b hd n hn cs x hx hw;obtain⟨a,h1,h2⟩:=h b hd n hn cs x hx hw;exact⟨g a,by rw[hc];exact h1,ho a h2⟩
theorem vl(ht:P.underlying t=some .bool):Rd enc P W N t (fun b:Bool=>[.bool b]) (fun _=>True):=by
 intro b hd n hn cs x hx hw;obtain⟨b,rfl,_⟩:=DataW.trod_bool ht hx;exact⟨b,by simp[bC,VR],trivial⟩
theorem jD{k:IntKind}(ht:P.underlying t=some (.int k)):Rd enc P W N t (fun n:Int=>[.int k n]) (fun n=>(Lit.int k n).wf=true):=by
 intro b hd n hn cs x hx hw;obtain⟨b,rfl,_,hwf⟩:=DataW.trod_int ht hx;exact⟨b,by simp[bC,VR],hwf⟩
theorem jE(ht:P.underlying t=some .string):Rd enc P W N t (fun s:List UInt8=>[.str s]) (fun s=>s.length<=reachBytes):=by
 intro b hd n hn cs x hx hw;obtain⟨s,rfl,rfl,_⟩:=DataW.trod_string ht hx;exact⟨s.data.toList,by simp[bC,VR],hw _ (by simp[DataW.weights])⟩
def I2(cells:α->List AV)(ev:α->AV)(sz:Nat):Prop:=∀(a:α)(S:aE)(β:List bT)(vs:List Value),bC S β (cells a) vs->vs.length=sz->∃v,VR S β (ev a) v/\v.cells.toList=vs
theorem fD{cells:α->List AV}{ev:α->AV}{sz:Nat}(he:∀a,ev a= .agg (cells a)):I2 cells ev sz:=fun a S β vs h hl=>⟨.agg vs.toArray,by rw[he];simp only[VR];exact⟨vs,rfl,h⟩,by simp[Value.cells]⟩
theorem Eh{ev:α->AV}(ho:∀a,bh (ev a)=true):I2 (fun a=>[ev a]) ev 1:=fun a S β vs h hl=>by
 simp only[bC]at h;obtain⟨v,_,rfl,h,rfl⟩:=h;exact⟨v,h,by rw[(jX (ho a) h).1]⟩
theorem lL{e:TypeId}:∀ {l:List (DataW H)} {d:DataW H},d∈l->∀k∈d.weights P e,k∈DataW.weightsAll P e l
 |x:: l,d,hd,k,hk=>by
  simp only[DataW.weightsAll,N6];rcases NP.1 hd with rfl|hd
  ·exact .inl hk
  ·exact .inr (lL hd k hk)
theorem fS{e:TypeId}{cells:α->List AV}{Ok:α->Prop}(h:Rd enc P W N e cells Ok)(ht:P.underlying t=some (.slice e)){sz by_:Nat}(hsz:P.cellsOf e=sz)(h0:0<sz)(hby:P.bytesOf e=by_){ev:α->AV}(hev:I2 cells ev sz):
  Rd enc P W N t (fun l:List α=>[.sl (l.map ev)]) (fun l=>l.length*by_<=reachBytes/\∀a∈l,Ok a):=by
 intro base hd n hn cs x hx hw;rcases DataW.trod_slice ht hx with⟨rfl,rfl⟩|⟨a,len,cap,elems,rest,m,rfl,rfl,rfl,hb,hle,hm,hlen,hel,hsp,_⟩
 ·exact⟨[],by simp only[bC,PD,VR];exact⟨_,_,rfl,⟨none,0,rfl,NL _,fun _=>rfl,fun q hq=>by cases hq⟩,rfl⟩,by simp,fun a ha=>by cases ha⟩
 obtain⟨hrl,hre⟩:=hsp rfl;rw[hsz]at hel hre;simp only[DataW.weights,ht,NP,N6,hby]at hw;have hspot:0<cap->a.spot=none:=by
  intro hc;have:∃y,(W.cells? base (a.add 0) sz).bind (DataW.trod enc P W base (fun _=>true) hd m e)=some y:=by
   by_cases h1:0<len
   ·have:=hel 0 h1
    rw[NH (by omega)]at this;exact⟨_,by simpa using this⟩
   ·have:=hre 0 (by omega)
    rw[NH (by omega)]at this;obtain rfl:len=0:=by omega
    exact⟨_,by simpa using this⟩
  obtain⟨y,hy⟩:=this;obtain⟨cs,hcs,_⟩:=QX.1 hy;obtain⟨_,hl,hc⟩:=World.cells?_some hcs;have h2:=hc 0 h0;rw[NH (by omega)]at h2;have h3:=World.cell?_spot h2;have e:(a.add 0).add 0=a:=by unfold Addr.add;simp
  rwa [e]at h3
 have hx:∀i,i<len->∃y:α,(∃v,VR (mA W) [] (ev y) v/\v.cells.size=sz/\fK (mA W) a.block (a.off+i*sz) v.cells.toList)/\Ok y:=by
  intro i hi;have h1:=hel i hi;rw[NH (by omega)]at h1;obtain⟨cs,hcs,htr⟩:=QX.1 h1;obtain⟨y,hy,hok⟩:=h base hd m (by omega) cs _ htr (fun k hk=>hw k (.inr (.inl (lL (O4.2 ⟨_,NW _,rfl⟩) k hk))));obtain⟨_,hl,hc⟩:=World.cells?_some hcs;obtain⟨v,hv,hvc⟩:=hev y _ _ cs hy hl;refine⟨y,⟨v,hv,by rw[<- OD,hvc,hl],fun j u hj=>?_⟩,hok⟩;rw[hvc]at hj;have hjl:j<sz:=by
   rcases N7 j cs.length with h|h
   ·omega
   ·rw[NX h]at hj;cases hj
  have h2:=hc j hjl;rw[hj]at h2;unfold mA;have hs:=hspot (by omega);have e:(a.add (i*sz)).add j=⟨a.block,a.off+i*sz+j,none⟩:=by
   obtain⟨b,o,s⟩:=a;simp only at hs;subst hs;rw[add_plain,add_plain]
  rw[<- e];exact h2
 obtain⟨l,hl1,hl2⟩:=AP (fun i y=>(∃v,VR (mA W) [] (ev y) v/\v.cells.size=sz/\fK (mA W) a.block (a.off+i*sz) v.cells.toList)/\Ok y) len hx;refine⟨l,?_,?_,fun y hy=>?_⟩
 ·simp only[bC,VR,Pn];refine⟨_,_,rfl,⟨some a,cap,by rw[hl1],by omega,(fun e=>by cases e),fun q hq=>?_⟩,rfl⟩;cases hq;refine⟨hspot,sz,.of_get fun i e he=>?_⟩;rw[Ou,Ph]at he;obtain⟨y,hy,rfl⟩:=he;exact (hl2 i y hy).1
 ·have:=hw _ (.inl rfl)
  simp only[Pn]at this;have h3:=NY by_ (show l.length<=elems.length+rest.length by omega);omega
 ·obtain⟨i,hi,e⟩:=Qz hy;exact (hl2 i y (by rw[NH hi,e])).2
theorem eB{tot:Nat}:F6 enc P W N tot tot [] (fun _:Unit=>[]) (fun _=>True):=fun base hd n hn cs xs hl _ _ _=>⟨(),by simp[bC,<- hl],trivial⟩
theorem aR{tot o k:Nat}{f:Field}{fs:List Field}{c1:α->List AV}{Ok1:α->Prop}{c2:β->List AV}{Ok2:β->Prop}(h1:Rd enc P W N f.type c1 Ok1)(ho:f.offset=o)(hk:P.cellsOf f.type=k)(h2:F6 enc P W N tot (o+k) fs c2 Ok2):
  F6 enc P W N tot o (f:: fs) (fun x:α×β=>c1 x.1++c2 x.2) (fun x=>Ok1 x.1/\Ok2 x.2):=by
 intro base hd n hn cs xs hl hx hf hw
 match xs,hx with
 |x:: xs,hx=>
  have hf0:=hf 0 f rfl;rw[ho,hk]at hf0;simp only[N8,DataW.weightsEach,N6]at hw;obtain⟨a,ha,oa⟩:=h1 base hd n hn _ x hf0 fun k hk=>hw k (.inl hk);obtain⟨b,hb,ob⟩:=h2 base hd n hn cs xs hl (by simpa using hx) (fun i g hg=>by simpa using hf (i+1) g (by simpa using hg)) fun k hk=>hw k (.inr hk);refine⟨(a,b),?_,oa,ob⟩
  have:=ha.append hb
  rwa [<- List.drop_drop,List.take_append_drop]at this
theorem dE{fs:Array Field}{tot:Nat}{cells:α->List AV}{Ok:α->Prop}(ht:P.underlying t=some (.struct fs))(hc:P.cellsOf t=tot)(h:F6 enc P W N tot 0 fs.toList cells Ok):Rd enc P W (N+1) t cells Ok:=by
 intro base hd n hn cs x hx hw;obtain⟨xs,m,rfl,rfl,hl,hxs,hf⟩:=DataW.trod_struct ht hx;simp only[DataW.weights,ht]at hw;obtain⟨a,h1,h2⟩:=h base hd m (by omega) cs xs (by rw[hl,hc]) (by simpa using hxs) (fun i f hi=>hf i f (by simpa using hi)) hw;exact⟨a,by simpa using h1,h2⟩
theorem Kh{cells:α->List AV}{Ok:α->Prop}(h:∀N,Rd enc P W N t cells Ok){base:Nat}{held:Bool}{v:Value}{d:DataW H}{p:List MemPlace}(hd:DataW.Trod enc P W base (fun _=>true) held t v d p)(hw:∀k∈d.weights P t,k<=reachBytes):
  ∃a:α,bC (mA W) [] (cells a) v.cells.toList/\Ok a:=by
 obtain⟨n,hn⟩:=hd;exact h (n+1) base held n (by omega) _ _ hn hw
theorem mB{fs:Array Field}{r:Reach}{b0:Nat}{f:α->AV}{Ok:α->Prop}{cells:α->List AV}(h:∀N,Rd enc P W N t cells Ok)(hf:∀a,f a= .agg (cells a))(ht:P.underlying t=some (.struct fs)){base:Nat}{held:Bool}{v:Value}{d:DataW H}{p:List MemPlace}(hok:Value.okWide P W r b0 t v)(hd:DataW.Trod enc P W base (fun _=>true) held t v d p)(hw:∀k∈d.weights P t,k<=reachBytes):∃a:α,VR (mA W) [] (f a) v/\Ok a:=by
 obtain⟨cs,rfl,_⟩:=okWide_struct ht hok;obtain⟨a,h1,h2⟩:=Kh h hd hw;refine⟨a,?_,h2⟩;rw[hf];simp only[VR];exact⟨cs.toList,by simp,h1⟩
theorem mJ{ts:List TypeId}{ds:List (DataW H)}(h:(DataW.weightsEach P ts ds).all (· <=reachBytes)=true){j:Nat}{u:TypeId}{d:DataW H}(ht:ts[j]? = some u)(hd:ds[j]? = some d):∀k∈d.weights P u,k<=reachBytes:=fun k hk=>by
 have:=Oc.1 h _ (DataW.weights_mem_each ht hd k hk)
 simpa using this
end
end Go.Av
namespace Go.Av.Ap
open Go Go.Av
theorem wV{V:Type}(k r:aG)(v:V):∀l:List (aG×V),fu (gU l k v) r=if k=r then some v else fu l r
 |[]=>by simp[gU,fu]
 | x:: l=>by
  simp only[gU];by_cases h:x.1=k
  ·subst h;simp only[NS,fu];split<;>rfl
  ·simp only[h,NK,fu,wV k r v l];by_cases h1:x.1=r
   ·have:¬k=r:=fun e=>h (h1.trans e.symm);simp[h1,this]
   ·simp[h1]
def wT{V:Type}{l:List (aG×V)}{r:aG}{v:V}(h:fu l r=some v):(r,v)∈l:=by
 induction l with
 |nil=>cases h
 |cons x l ih=>
  simp only[fu]at h;split at h
  ·rename_i e;cases h;subst e;exact Oq
  ·exact OC _ (ih h)
def lR{V:Type}{l:List (aG×V)}{r:aG}:fu l r=none↔r ∉ l.map (·.1):=by
 induction l with
 |nil=>simp[fu]
 | cons x l ih=>
  simp only[fu,N8,NP,not_or];by_cases h:x.1=r
  ·simp[h]
  ·have h':¬r=x.1:=fun e=>h e.symm;simp[h,h',ih]
def mO{V:Type}{l:List (aG×V)}(hn:(l.map (·.1)).Nodup){r:aG}{v:V}(h:(r,v)∈l):fu l r=some v:=by
 induction l with
 |nil=>cases h
 | cons x l ih=>
  simp only[N8,Pk]at hn;simp only[fu];rcases NP.1 h with rfl|h
  ·simp
  ·have:¬x.1=r:=fun e=>hn.1 (by rw[e];exact Qw (f:=(·.1)) h);simp[this,ih hn.2 h]
theorem o5{V:Type}(k:aG)(v:V):∀l:List (aG×V),(gU l k v).map (·.1)=if k∈l.map (·.1)then l.map (·.1)else l.map (·.1)++[k]
 |[]=>rfl
 | x:: l=>by
  simp only[gU];by_cases h:x.1=k
  ·subst h;simp
  ·have h':¬k=x.1:=fun e=>h e.symm;simp only[h,NK,N8,o5 k v l,NP,h',false_or];split<;>rfl
def r7{V:Type}(k:aG)(v:V)(l:List (aG×V))(h:(l.map (·.1)).Nodup):((gU l k v).map (·.1)).Nodup:=by
 rw[o5];split
 ·exact h
 ·rename_i hk;exact QH.2 ⟨h,by simp,fun a ha b hb e=>by simp at hb;subst hb;subst e;exact hk ha⟩
def xQ{V:Type}(k r:aG)(v:V)(l:List (aG×V)):r∈(gU l k v).map (·.1)↔r=k\/r∈l.map (·.1):=by
 rw[o5];split
 ·rename_i h;constructor
  ·exact .inr
  ·rintro (rfl|h2);exact h;exact h2
 ·rw[N6,OA];exact⟨fun h=>h.symm,fun h=>h.symm⟩
def tp{V:Type}(l:List (bk×List (bk×V)))(r:aG):Option V:=match l.find? (fun m=>m.1== r.1)with
 |some m=>(m.2.find? fun f=>f.1== r.2).map (·.2)
 |none=>none
theorem tC{V:Type}(m:bk)(r:aG):∀(l:List (bk×V))(out:List (aG×V)),fu (mQ m l out) r=if r.1=m then(match l.find? (fun f=>f.1== r.2)with|some f=>some f.2|none=>fu out r)else fu out r
 |[],out=>by simp[mQ]
 | f:: l,out=>by
  have ih:=tC m r l out;show fu (gU (mQ m l out) (m,f.1) f.2) r=_;rw[wV,ih];by_cases h1:r.1=m
  ·by_cases h2:f.1=r.2
   ·have e:((m,f.1):aG)=r:=Prod.ext h1.symm h2;simp[h1,h2,e,O9];rw[<- h1,<- h2]at *;simp[e]
   ·have e:¬((m,f.1):aG)=r:=fun e=>h2 (by rw[<- e]);have e2:(f.1== r.2)=false:=Oh.2 h2;simp[h1,e,O9,e2]
  ·have e:¬((m,f.1):aG)=r:=fun e=>h1 (by rw[<- e]);simp[h1,e]
theorem tG{V:Type}(m:bk):∀(l:List (bk×V))(out:List (aG×V))(r:aG),r∈(mQ m l out).map (·.1)↔(r.1=m/\r.2∈l.map (·.1))\/r∈out.map (·.1)
 |[],out,r=>by simp[mQ]
 | f:: l,out,r=>by
  show r∈(gU (mQ m l out) (m,f.1) f.2).map (·.1)↔_;rw[xQ,tG m l out r];constructor
  ·rintro (rfl|⟨h1,h2⟩|h)
   ·exact .inl ⟨rfl,by simp⟩
   ·exact .inl ⟨h1,by simp[h2]⟩
   ·exact .inr h
  ·rintro (⟨h1,h2⟩|h)
   ·rcases NP.1 h2 with h2|h2
    ·exact .inl (Prod.ext h1 h2)
    ·exact .inr (.inl ⟨h1,h2⟩)
   ·exact .inr (.inr h)
theorem oI{V:Type}(r:aG):∀(l:List (bk×List (bk×V)))(seen:List bk)(out:List (aG×V)),(∀k∈out.map (·.1),k.1∈seen)->fu (jw l seen out) r=if r.1∈seen then fu out r else tp l r
 | [],seen,out,ho=>by
  simp only[jw,tp,List.find?_nil];split
  ·rfl
  ·rename_i h;exact lR.2 fun hk=>h (ho r hk)
 | m:: l,seen,out,ho=>by
  simp only[jw];by_cases hm:m.1∈seen
  ·rw[NE hm,oI r l seen out ho];split
   ·rfl
   ·rename_i h;have:(m.1== r.1)=false:=Oh.2 fun e=>h (e▸hm);simp[tp,O9,this]
  ·rw[if_neg hm,oI r l (seen++[m.1]) (mQ m.1 m.2 out) (fun k hk=>by
    rcases (tG m.1 m.2 out k).1 hk with⟨h,_⟩|h
    ·simp[h]
    ·simp[ho k h]),tC]
   by_cases hr:r.1=m.1
   ·have h1:r.1∈seen++[m.1]:=by simp[hr]
    have h2:¬r.1∈seen:=by rw[hr];exact hm
    have h3:fu out r=none:=lR.2 fun hk=>h2 (ho r hk);have h4:(m.1== r.1)=true:=Ol.2 hr.symm;rw[NE h1,if_neg h2,NE hr,h3];simp only[tp,O9,h4];cases m.2.find? (fun f=>f.1== r.2)<;>rfl
   ·have h4:(m.1== r.1)=false:=Oh.2 fun e=>hr e.symm;have h1:r.1∈seen++[m.1]↔r.1∈seen:=by simp[hr]
    simp only[h1,hr,NK,tp,O9,h4]
theorem mR{V:Type}:∀(l:List (bk×List (bk×V)))(seen:List bk)(out:List (aG×V)),(out.map (·.1)).Nodup->((jw l seen out).map (·.1)).Nodup
 |[],_,_,h=>h
 | m:: l,seen,out,h=>by
  simp only[jw];split
  ·exact mR l seen out h
  ·refine mR l _ _ ?_;have:∀(fs:List (bk×V)),((mQ m.1 fs out).map (·.1)).Nodup:=by
    intro fs
    induction fs with
    |nil=>exact h
    |cons f fs ih=>exact r7 _ _ _ ih
   exact this m.2
theorem xP{V W:Type}(g:V->W)(k:aG)(v:V):∀l:List (aG×V),gU (l.map fun x=>(x.1,g x.2)) k (g v)=(gU l k v).map fun x=>(x.1,g x.2)
 |[]=>rfl
 |x:: l=>by
  simp only[N8,gU];split
  ·rfl
  ·rw[xP g k v l];rfl
theorem xb{V W:Type}(g:V->W)(m:bk)(out:List (aG×V)):∀l:List (bk×V),mQ m (l.map fun x=>(x.1,g x.2)) (out.map fun x=>(x.1,g x.2))=(mQ m l out).map fun x=>(x.1,g x.2)
 |[]=>rfl
 |f:: l=>by
  show gU (mQ m (l.map fun x=>(x.1,g x.2)) (out.map fun x=>(x.1,g x.2))) (m,f.1) (g f.2)=_;rw[xb g m out l,xP];rfl
theorem rn{V W:Type}(g:V->W):∀(l:List (bk×List (bk×V)))(seen:List bk)(out:List (aG×V)),jw (l.map fun m=>(m.1,m.2.map fun x=>(x.1,g x.2))) seen (out.map fun x=>(x.1,g x.2))=(jw l seen out).map fun x=>(x.1,g x.2)
 |[],_,_=>rfl
 |m:: l,seen,out=>by
  simp only[N8,jw];split
  ·exact rn g l seen out
  ·rw[xb,rn g l]
def oZ(m:Mod):bk×List (bk×Fun):=(m.name,m.funcs.map fun f=>(f.name,f))
def cW(p:List Mod):List (aG×Fun):=jw (p.map oZ) [] []
def cd(p:List Mod)(r:aG):Option Fun:=match p.find? (fun m=>m.name== r.1)with
 |some m=>m.funcs.find? fun f=>f.name== r.2
 |none=>none
theorem ql(p:List Mod)(r:aG):fu (cW p) r=cd p r:=by
 unfold cW;rw[oI r _ [] [] (by simp),if_neg (by simp)];unfold tp cd;rw[List.find?_map];have:((fun m:bk×List (bk×Fun)=>m.1== r.1) ∘ oZ)=fun m:Mod=>m.name== r.1:=rfl;rw[this];cases p.find? (fun m=>m.name== r.1)with
 |none=>rfl
 |some m=>
  simp only[Oo,oZ];rw[List.find?_map];have:((fun f:bk×Fun=>f.1== r.2) ∘ fun f:Fun=>(f.name,f))=fun f:Fun=>f.name== r.2:=rfl;rw[this];cases m.funcs.find? (fun f=>f.name== r.2)<;>rfl
def oL(p:List Mod):((cW p).map (·.1)).Nodup:=mR _ _ _ (by simp)
mutual
def fw:Exp->List Exp
 |.mk o n s m ns es=>.mk o n s m ns es:: qn es
def qn:List Exp->List Exp
 |[]=>[]
 |e:: es=>fw e++qn es
end
theorem nO:∀l:List Exp,qn l=l.flatMap fw
 |[]=>rfl
 |e:: l=>by simp[qn,nO l]
def oT(e:Exp):fw e=e:: e.args.flatMap fw:=by
 cases e with
 |mk o n s m ns es=>simp only[fw,nO];rfl
def Bg:Exp:=.mk 0 0 [] [] [] []
def sE:Fun:=⟨[],false,[],.mk 0 [],0,Bg⟩
def pW(f:aG)(e:Exp):aG:=(if e.m=[]then f.1 else e.m,e.s)
def kM(p:List Mod)(f:aG)(e:Exp):Bool:=e.op== 15&&(match cd p (pW f e)with|some g=>e.m== []||g.pub|none=>false)
def kL(p:List Mod)(f:aG):Exp:=((cd p f).getD sE).body
def lq(p:List Mod)(f:aG)(o:List (aG×Bool))(e:Exp):List (aG×Bool):=if kM p f e then gU o (pW f e) true else o
def found(p:List Mod)(f:aG):List (aG×Bool):=(fw (kL p f)).foldl (lq p f) []
def dm(p:List Mod)(f:aG):List aG:=cP ((found p f).map (·.1))
theorem tA(p:List Mod)(f r:aG):∀(l:List Exp)(o:List (aG×Bool)),r∈(l.foldl (lq p f) o).map (·.1)↔(∃e∈l,kM p f e=true/\r=pW f e)\/r∈o.map (·.1)
 |[],o=>by simp
 | e :: l,o=>by
  simp only[OR];rw[tA p f r l,lq];by_cases h:kM p f e=true
  ·rw[NE h,xQ];constructor
   ·rintro (⟨e',h1,h2⟩|rfl|h1)
    ·exact .inl ⟨e',by simp[h1],h2⟩
    ·exact .inl ⟨e,by simp,h,rfl⟩
    ·exact .inr h1
   ·rintro (⟨e',h1,h2,h3⟩|h1)
    ·rcases NP.1 h1 with rfl|h1
     ·exact .inr (.inl h3)
     ·exact .inl ⟨e',h1,h2,h3⟩
    ·exact .inr (.inr h1)
  ·rw[if_neg h];constructor
   ·rintro (⟨e',h1,h2⟩|h1)
    ·exact .inl ⟨e',by simp[h1],h2⟩
    ·exact .inr h1
   ·rintro (⟨e',h1,h2,h3⟩|h1)
    ·rcases NP.1 h1 with rfl|h1
     ·exact absurd h2 h
     ·exact .inl ⟨e',h1,h2,h3⟩
    ·exact .inr h1
theorem lr(p:List Mod)(f:aG):∀(l:List Exp)(o:List (aG×Bool)),(o.map (·.1)).Nodup->((l.foldl (lq p f) o).map (·.1)).Nodup
 |[],o,h=>h
 |e:: l,o,h=>by
  simp only[OR];refine lr p f l _ ?_;unfold lq;split
  ·exact r7 _ _ _ h
  ·exact h
def oQ{p:List Mod}{f r:aG}:r∈dm p f↔∃e∈fw (kL p f),kM p f e=true/\r=pW f e:=by
 unfold dm;rw[(cN _).mem_iff];unfold found;rw[tA];simp
def je(p:List Mod)(f:aG):(dm p f).Nodup:=(cN _).nodup_iff.2 (lr p f _ [] (by simp))
def we{p:List Mod}{f r:aG}(h:r∈dm p f):(cd p r).isSome=true:=by
 obtain⟨e,_,h2,rfl⟩:=oQ.1 h;unfold kM at h2;cases hf:cd p (pW f e)with
 |none=>rw[hf]at h2;simp at h2
 |some g=>rfl
def yO{p:List Mod}{f:aG}(h:cd p f=none):dm p f=[]:=by
 rw[PX];intro r hr;obtain⟨e,h1,h2,_⟩:=oQ.1 hr;unfold kL at h1;rw[h]at h1;have:e=Bg:=by simpa [sE,Bg,oT,Exp.args]using h1
 subst this;cases h2
def xD(C:aG->List aG)(D:List (aG×List aG))(x:aG)(c:List aG):List (aG×List aG):=((C x).filter fun r=>!(D.map (·.1)).contains r).map fun r=>(r,c++[r])
def kh(C:aG->List aG):Nat->Nat->List (aG×List aG)->List (aG×List aG)
 |0,_,D=>D
 |n+1,k,D=>match D[k]? with
  |none=>D
  |some (x,c)=>kh C n (k+1) (D++xD C D x c)
def df(p:List Mod)(f:aG):List (aG×List aG):=if(cd p f).isSome then kh (dm p) ((cW p).length+1) 0 [(f,[f])]else[]
theorem dN{α:Type}[DecidableEq α]:∀ {l m:List α},l.Nodup->(∀x∈l,x∈m)->l.length<=m.length
 |[],m,_,_=>OX _
 | x:: l,m,hn,hs=>by
  have hx:=hs x Oq
  have:=dN (l:=l) (m:=m.erase x) (Pk.1 hn).2 (fun y hy=>by
   have hne:y≠x:=fun e=>(Pk.1 hn).1 (e▸hy);exact (List.mem_erase_of_ne hne).2 (hs y (OC _ hy)))
  rw[List.length_erase_of_mem hx]at this
  have:=List.length_pos_of_mem hx
  simp only[Of];omega
def lJ(c:List aG)(D:List (aG×List aG))(r:aG):List (aG×List aG):=if r∈D.map (·.1)then D else D++[(r,c++[r])]
theorem ym(c:List aG):∀(l:List aG)(D:List (aG×List aG)),l.Nodup->l.foldl (lJ c) D=D++((l.filter fun r=>!(D.map (·.1)).contains r).map fun r=>(r,c++[r]))
 |[],D,_=>by simp
 | r:: l,D,hn=>by
  obtain⟨h1,h2⟩:=Pk.1 hn;simp only[OR];rw[ym c l _ h2];unfold lJ;by_cases hr:r∈D.map (·.1)
  ·have:(!(D.map (·.1)).contains r)=false:=by simpa using hr
   rw[NE hr,Qh (p:=fun r=>!(D.map (·.1)).contains r) (by rw[this];simp)]
  ·have h3:(!(D.map (·.1)).contains r)=true:=by simpa using hr
   rw[if_neg hr,Qi (p:=fun r=>!(D.map (·.1)).contains r) h3];simp only[N8,Oz,Ob,N4];congr 2;congr 1;apply Qj;intro y hy;have hne:y≠r:=fun e=>h1 (e▸hy);simp[hne]
def AZ(C:aG->List aG)(D:List (aG×List aG))(x:aG)(c:List aG)(h:(C x).Nodup):(C x).foldl (lJ c) D=D++xD C D x c:=ym c _ _ h
def nN{C:aG->List aG}{D:List (aG×List aG)}{x:aG}{c:List aG}{e:aG×List aG}:e∈xD C D x c↔e.1∈C x/\e.1 ∉ D.map (·.1)/\e.2=c++[e.1]:=by
 unfold xD;rw[O4];constructor
 ·rintro⟨r,hr,rfl⟩;rw[OS]at hr;exact⟨hr.1,by simpa using hr.2,rfl⟩
 ·rintro⟨h1,h2,h3⟩;exact⟨e.1,OS.2 ⟨h1,by simpa using h2⟩,by rw[<- h3]⟩
structure DInv (p:List Mod) (f:aG) (k:Nat) (D:List (aG×List aG)):Prop where
 nodup:(D.map (·.1)).Nodup
 inn:∀e∈D,(cd p e.1).isSome=true
 chain:∀e∈D,e=(f,[f])\/∃y c,(y,c)∈D/\e.1∈dm p y/\e.2=c++[e.1]
 closed:∀i e,i<k->D[i]? = some e->∀r∈dm p e.1,r∈D.map (·.1)
 start:(f,[f])∈D
def lx(p:List Mod)(r:aG):r∈(cW p).map (·.1)↔(cd p r).isSome=true:=by
 have:=@lR Fun (cW p) r
 rw[ql]at this;cases h:cd p r with
 |none=>rw[h]at this;simpa using this.1 rfl
 |some g=>rw[h]at this;simpa using this
def DInv.len{p:List Mod}{f:aG}{k:Nat}{D:List (aG×List aG)}(I:DInv p f k D):D.length<=(cW p).length:=by
 have:=dN (l:=D.map (·.1)) (m:=(cW p).map (·.1)) I.nodup (fun x hx=>by
  obtain⟨e,he,rfl⟩:=O4.1 hx;exact (lx p _).2 (I.inn e he))
 simpa using this
def DInv.zero{p:List Mod}{f:aG}(h:(cd p f).isSome=true):DInv p f 0 [(f,[f])] where
 nodup:=by simp
 inn:=fun e he=>by rw[OA.1 he];exact h
 chain:=fun e he=>.inl (OA.1 he)
 closed:=fun i e hi=>by omega
 start:=OA.2 rfl
def DInv.step{p:List Mod}{f:aG}{k:Nat}{D:List (aG×List aG)}(I:DInv p f k D){x:aG}{c:List aG}(hk:D[k]? = some (x,c)):DInv p f (k+1) (D++xD (dm p) D x c) where
 nodup:=by
  rw[Ps,QH];refine⟨I.nodup,?_,fun a ha b hb e=>?_⟩
  ·have:(xD (dm p) D x c).map (·.1)=(dm p x).filter fun r=>!(D.map (·.1)).contains r:=by
    unfold xD;rw[P2];exact List.map_id _
   rw[this];exact (je p x).filter _
  ·obtain⟨y,hy,rfl⟩:=O4.1 hb;exact (nN.1 hy).2.1 (e▸ha)
 inn:=fun e he=>by
  rcases N6.1 he with he|he
  ·exact I.inn e he
  ·exact we (nN.1 he).1
 chain:=fun e he=>by
  rcases N6.1 he with he|he
  ·rcases I.chain e he with h|⟨y,c',h1,h2⟩
   ·exact .inl h
   ·exact .inr ⟨y,c',P6 _ h1,h2⟩
  ·obtain⟨h1,h2,h3⟩:=nN.1 he;exact .inr ⟨x,c,P6 _ (Ov hk),h1,h3⟩
 closed:=fun i e hi he r hr=>by
  rw[Ps,N6];have hkl:k<D.length:=(NO.1 hk).1;rw[NJ (by omega)]at he;by_cases h:i<k
  ·exact .inl (I.closed i e h he r hr)
  ·obtain rfl:i=k:=by omega
   rw[hk]at he;cases he;by_cases hm:r∈D.map (·.1)
   ·exact .inl hm
   ·exact .inr (O4.2 ⟨(r,c++[r]),nN.2 ⟨hr,hm,rfl⟩,rfl⟩)
 start:=P6 _ I.start
theorem Aq{p:List Mod}{f:aG}:∀(n k:Nat)(D:List (aG×List aG)),DInv p f k D->(cW p).length<=k+n->DInv p f (kh (dm p) n k D).length (kh (dm p) n k D)
 |0,k,D,I,h=>by
  have:=I.len
  exact⟨I.nodup,I.inn,I.chain,fun i e hi he=>I.closed i e (by simp only[kh]at hi;omega) he,I.start⟩
 | n+1,k,D,I,h=>by
  simp only[kh];cases hk:D[k]? with
  |none=>
   have:=Qc.1 hk
   exact⟨I.nodup,I.inn,I.chain,fun i e hi he=>I.closed i e (by simp only at hi;omega) he,I.start⟩
  |some e=>
   obtain⟨x,c⟩:=e;exact Aq n (k+1) _ (I.step hk) (by omega)
def Cp{p:List Mod}{f:aG}(h:(cd p f).isSome=true):DInv p f (df p f).length (df p f):=by
 unfold df;rw[NE h];exact Aq _ 0 _ (DInv.zero h) (by omega)
def zM(e:aG×List aG):aG×aG:=(e.1,e.2.dropLast.getLastD e.1)
def Cm(c:List aG)(r y:aG)(hc:c.getLast? = some y):zM (r,c++[r])=(r,y):=by
 simp[zM,List.getLastD_eq_getLast?,hc]
def DInv.last{p:List Mod}{f:aG}{k:Nat}{D:List (aG×List aG)}(I:DInv p f k D){e:aG×List aG}(he:e∈D):e.2.getLast? = some e.1:=by
 rcases I.chain e he with rfl|⟨y,c,_,_,h⟩
 ·rfl
 ·rw[h];simp
def kG(D:List (aG×List aG)):List AV:=[.tup ((D.map zM).map (ee bp))]
def Lh{T:TT}{t e:Nat}{ti ei:TI}(ht:T t=some ti)(hk:ti.kind= .slice e)(he:T e=some ei){x:AV}(hx:cE ei.size x=true)(hb:0<ei.bytes)(hs:0<ei.size){h:Hp}{q n:Nat}{cs:List AV}(h0:h[q]? = some cs)(hok:cs.all bh=true)(hl:cs.length=n*ei.size)(hn:0<n)(hc:(n+1)*ei.bytes<=140737488355328):appH T t false (.hs q 0 n ei.size ei.agg) (.sl [x]) h= .ok (.hs h.length 0 (n+1) ei.size ei.agg) ((h.set q [])++[cs++aa x]):=by
 have h1:dw ei.size [x]=true:=by simp[dw,hx]
 have h2:List.all cs bh=true:=hok;have h3:0<n*ei.size:=PQ hn hs;have h4:cs.take (n*ei.size)=cs:=by rw[<- hl];exact Pp
 simp only[appH,ht,hk,he,iQ,h1,hb,hs,kO,h0,h2,hl,OH,P7,NF,OB,Oy,List.isEmpty_cons,NQ,OV,List.flatMap_nil,OE,h3,h4,NL];rw[OM hc];simp
def xN(qs:List Nat):(qs.map fun(i:Nat)=>AV.int .i64 i).map xC=qs:=by
 induction qs with
 |nil=>rfl
 |cons q qs ih=>simp only[N8,ih];rfl
def Hb{l m:Nat}{n:Int}{c:AV}{kf kt:M AV}{h:Hp}{es:List AV}(hl:h[l]? = some [.tup [],.mp m,.int .i64 n,jC [],c])(hm:h[m]? = some [.tup es])(hn:(es.length:Int)=n):jz (.it l) kf kt h=kf (h.set l []):=by
 simp only[jz,hl,jC,hm,NE hn,xN]
def Gy{ps:List Nat}{k:Nat->M AV}{h:Hp}{r:R AV}(hne:ps≠[])(hall:∀q∈ps,k q h=r):pZ ps k h=r:=by
 cases ps with
 |nil=>exact absurd rfl hne
 |cons p ps=>
  simp only[pZ];rw[NE (fun q hq=>(hall q (OC _ hq)).trans (hall p Oq).symm)];exact hall p Oq
def E7{l m:Nat}{n:Int}{qs:List Nat}{c:AV}{kf kt:M AV}{h:Hp}{es:List AV}{r:R AV}(hl:h[l]? = some [.tup [],.mp m,.int .i64 n,jC qs,c])(hm:h[m]? = some [.tup es])(hn:(es.length:Int)=n)(hne:qs≠[])(hall:∀q∈qs,kt (h.set l [.tup [],.mp m,.int .i64 n,jC (qs.filter fun r=>!(Nat.beq r q)),.int .i64 (q:Nat)])=r):jz (.it l) kf kt h=r:=by
 cases qs with
 |nil=>exact absurd rfl hne
 | cons p ps=>
  have h1:jz (.it l) kf kt h=pZ (p:: ps) (fun q h=>kt (h.set l [.tup [],.mp m,.int .i64 n,jC ((p:: ps).filter fun r=>!(Nat.beq r q)),.int .i64 (q:Nat)])) h:=by
   simp only[jz,hl,jC,hm,NE hn,xN]
  rw[h1];exact Gy (k:=fun q h=>kt (h.set l [.tup [],.mp m,.int .i64 n,jC ((p:: ps).filter fun r=>!(Nat.beq r q)),.int .i64 (q:Nat)])) hne hall
def Em{l m q:Nat}{n:Int}{x k v:AV}{h:Hp}{es:List AV}(hl:h[l]? = some [.tup [],.mp m,.int .i64 n,x,.int .i64 (q:Nat)])(hm:h[m]? = some [.tup es])(hn:(es.length:Int)=n)(hq:es[q]? = some (.tup [k,v])):gm (.it l) h= .ok (.tup [k,v]) h:=by
 simp only[gm,hl,hm,NE hn,PI,hq]
def LQ{a b:Nat}(h:¬a=b):Nat.beq a b=false:=by
 cases hb:Nat.beq a b with
 |false=>rfl
 |true=>exact absurd (NR hb) h
theorem pP{q:Nat}:∀ {qs:List Nat},qs.Nodup->q∈qs->qs.Perm (q:: qs.filter fun r=>!(Nat.beq r q))
 |[],_,h=>by cases h
 | x:: qs,hn,h=>by
  obtain⟨h1,h2⟩:=Pk.1 hn;by_cases hx:x=q
  ·subst hx;have e:qs.filter (fun r=>!(Nat.beq r x))=qs:=Qx.2 fun y hy=>by
    have:¬y=x:=fun e=>h1 (e▸hy);simp[LQ this]
   rw[Qh (by simp),e]
  ·have hq:q∈qs:=by
    rcases NP.1 h with h|h
    ·exact absurd h.symm hx
    ·exact h
   rw[Qi (by simp[LQ hx])];exact ((pP h2 hq).cons x).trans (List.Perm.swap _ _ _)
def nP{q:Nat}{qs:List Nat}(h:qs.Nodup):(qs.filter fun r=>!(Nat.beq r q)).Nodup:=h.filter _
def cQ:List aG->List AV
 |[]=>[]
 |r:: l=>.str r.1:: .str r.2:: cQ l
theorem fq:∀l:List aG,(cQ l).length=l.length*2
 |[]=>rfl
 |r:: l=>by simp only[cQ,Of,fq l];omega
theorem lO:∀l:List aG,(cQ l).all bh=true
 |[]=>rfl
 |r:: l=>by simp only[cQ,OT,lO l,Qm];rfl
theorem qN:∀a b:List aG,cQ (a++b)=cQ a++cQ b
 |[],b=>rfl
 |r:: a,b=>by simp only[Ob,cQ,qN a b]
theorem qO:∀(l:List aG)(i:Nat)(h:i<l.length),((cQ l).drop (i*2)).take 2=[.str l[i].1,.str l[i].2]
 |r:: l,0,_=>rfl
 |r:: l,i+1,h=>by
  rw[show (i+1)*2=i*2+1+1 by omega];simp only[cQ,N5,List.getElem_cons_succ];exact qO l i (by simpa using h)
def EA{h:Hp}{l:Nat}{P:List aG}(hl:h[l]? = some (cQ P))(d:Nat):oH (d+1) h (.hs l 0 P.length 2 true)=aI P:=by
 have h1:(decide (0+P.length*2<=(cQ P).length)&&decide (0<2)&&(true||(Nat.beq 2 1&&(cQ P).all bh)))=true:=by
  rw[fq];simp
 simp only[oH,cl,hl,h1,NF];unfold aI;congr 1;apply QR (by simp);intro i h2 h3;simp at h2;simp only[List.getElem_map,List.getElem_range,NU];rw[qO P i h2];cases d<;>rfl
def DInv.uniq{p:List Mod}{f:aG}{k:Nat}{D:List (aG×List aG)}(I:DInv p f k D){x:aG}{c d:List aG}(h1:(x,c)∈D)(h2:(x,d)∈D):c=d:=by
 have e1:=mO I.nodup h1;have e2:=mO I.nodup h2;rw[e1]at e2;exact QZ e2
def oz(p:List Mod)(f:aG):List aG:=cP ((df p f).map (·.1))
def AW{p:List Mod}{f x:aG}:x∈oz p f↔x∈(df p f).map (·.1):=(cN _).mem_iff
def jJ(p:List Mod):List aG:=p.flatMap fun m=>m.funcs.map fun f=>(m.name,f.name)
def tq{p:List Mod}{r:aG}(h:(cd p r).isSome=true):r∈jJ p:=by
 unfold cd at h;split at h
 ·rename_i m hm;cases hf:m.funcs.find? fun f=>f.name== r.2 with
  |none=>rw[hf]at h;cases h
  |some g=>
   have h1:=List.find?_some hm;have h2:=List.find?_some hf;refine QK.2 ⟨m,PP hm,O4.2 ⟨g,PP hf,?_⟩⟩;simp only[Ol]at h1 h2;rw[h1,h2]
 ·cases h
def CQ(p:List Mod){n:Nat}(h:∀m∈p,m.funcs.length<=n):(jJ p).length<=p.length*n:=by
 induction p with
 |nil=>simp[jJ]
 |cons m p ih=>
  have h1:=ih (fun m hm=>h m (OC _ hm));have h2:=h m Oq;have:(jJ (m:: p)).length=m.funcs.length+(jJ p).length:=by simp[jJ]
  rw[this,Of,Ow];omega
def GL(p:List Mod):(cW p).length<=(jJ p).length:=by
 have:=dN (l:=(cW p).map (·.1)) (m:=jJ p) (oL p) (fun x hx=>tq ((lx p x).1 hx))
 simpa using this
end Go.Av.Ap
namespace Go.Av.Ap
def sG:List bk->Bool
 |[]=>true
 |[_]=>true
 |x:: y:: l=>bQ x y&&sG (y:: l)
def bU:Nat->Val->Bool
 |0,_=>false
 |d+1,v=>if(v.kind== 0||v.kind== 1)=true then v.names.length== 0&&v.values.length== 0&&(v.kind== 0||v.n== 0||v.n== 1)
  else v.kind== 2&&v.n== 0&&v.names.length== v.values.length&&decide (v.names.length<=8)&&sG v.names&&v.values.all (bU d)
def cC(b:Bool):Val:=.mk 1 (if b then 1 else 0) [] []
def jW(n:Int):Val:=.mk 0 n [] []
def fG(p:List Mod)(s:bk):Int:=bj (fun m=>m.name== s) p 0
def dX(l:List Fun)(s:bk):Int:=bj (fun f=>f.name== s) l 0
def f4(l:List ie)(s:bk):Int:=bj (fun f=>f.1== s) l 0
structure Ms where
 fuel:Int
 frames:Int
 world:List Int
 deeds:List Deed
 calls:List Call
 state:List (List Val)
inductive Rs (α:Type) where
 |ok (a:α) (m:Ms)
 |er (e:Int) (m:Ms)
def X(α:Type):=Ms->Rs α
def X.ok{α:Type}(a:α):X α:=fun m=>.ok a m
def X.er{α:Type}(e:Int):X α:=fun m=>.er e m
def X.bind{α β:Type}(x:X α)(f:α->X β):X β:=fun m=>match x m with
 |.ok a m'=>f a m'
 |.er e m'=>.er e m'
def X.upd{α:Type}(f:Ms->Ms)(x:X α):X α:=fun m=>x (f m)
def X.get{α:Type}(f:Ms->X α):X α:=fun m=>f m m
def aW(op:Int):Int:=
 if op=0\/op=1\/op=2\/op=17 then 0
 else if op=10\/op=14\/op=16\/op=18 then 1
 else if op=3\/op=4\/op=5\/op=6\/op=7\/op=8\/op=9\/op=12 then 2
 else if op=11 then 3
 else if op=13\/op=15 then -1
 else -2
def ij:List bk->List Val->bk->Option Val
 |n:: ns,v:: vs,s=>match ij ns vs s with
  |some x=>some x
  |none=>if n=s then some v else none
 |_,_,_=>none
def eP:List bk->List Val->bk->Option Val
 |n:: ns,v:: vs,s=>if n=s then some v else eP ns vs s
 |_,_,_=>none
def wr(n:Int):Int:=IntKind.i64.wrap n
def jK(op:Int)(a b:Val):X Val:=
 if op=7 then(if a.kind=b.kind/\a.kind≠2 then .ok (cC (a.n== b.n))else .er 13)
 else if a.kind=0/\b.kind=0 then
  (if op=3 then .ok (jW (wr (a.n+b.n)))else if op=4 then .ok (jW (wr (a.n-b.n)))else if op=5 then .ok (jW (wr (a.n*b.n)))else .ok (cC (decide (a.n<b.n))))
 else .er 13
mutual
def cK:Val->Nat
 |.mk _ _ _ vs=>cV vs+1
def cV:List Val->Nat
 |[]=>0
 |v:: vs=>max (cK v) (cV vs)
end
abbrev Ev:=Int->List bk->List Val->Exp->X Val
def boolX(r:X Val):X Bool:=r.bind fun v=>if v.kind=1 then .ok (v.n== 1)else .er 13
def listX(r:Exp->X Val):List Exp->X (List Val)
 |[]=>.ok []
 |e:: es=>(r e).bind fun v=>(listX r es).bind fun vs=>.ok (v:: vs)
def gI(r:Exp->X Val)(e:Exp):X Val:=
 if e.names.length=e.args.length/\sG e.names=true then
  (if e.names.length<=8 then(listX r e.args).bind fun vs=>if cK (.mk 2 0 e.names vs)<=4 then .ok (.mk 2 0 e.names vs)else .er 6 else .er 6)
 else .er 13
def jm(p:List Mod)(at_:Int)(s:bk):Option Fun:=
 if at_<0 then none else(let l:=(p[at_.toNat]?.getD default).funcs;let i:=dX l s;if i<0 then none else l[i.toNat]?)
def ff(p:List Mod)(r:Ev)(at_:Int)(f:Fun)(l:List Val):X Val:=
 .get fun m=>if m.frames<60 then
  .upd (fun m=>{ m with calls:=if f.pub=true then m.calls++[⟨(p[at_.toNat]?.getD default).name,f.name,l⟩]else m.calls,frames:=m.frames+1 })
   ((r at_ (f.params.map (·.1)) l f.body).bind fun v=>.upd (fun m=>{ m with frames:=m.frames-1 }) (.ok v))
 else .er 6
def mb(p:List Mod)(r:Ev)(own:Int)(ns:List bk)(vs:List Val)(e:Exp):X Val:=
 let at_:=if e.m=[]then own else fG p e.m
 match jm p at_ e.s with
 |none=>.er 12
 | some f=>if e.m=[]\/f.pub=true then
   (if e.args.length=f.params.length then(listX (r own ns vs) e.args).bind fun l=>ff p r at_ f l else .er 13)
  else .er 12
def sJ(r:X Val)(e:Exp):X Val:=
 r.bind fun v=>if v.kind=0 then
  (if e.n=1\/e.n=2\/e.n=4\/e.n=8 then
   .get fun m=>.upd (fun m=>{ m with world:=m.world.tail,deeds:=m.deeds++[⟨e.n,v.n,m.world.headD 0⟩] }) (.ok (jW (m.world.headD 0)))
  else .er 14)
 else .er 13
def setSt(st:List (List Val))(i k:Nat)(v:Val):List (List Val):=st.modify i fun l=>l.set k v
def me(st:List (List Val))(i k:Nat):Val:=(st.getD i []).getD k default
def sX(p:List Mod)(r:Exp->X Val)(own:Int)(e:Exp):X Val:=
 if own<0 then .er 12 else
 let i:=f4 (p[own.toNat]?.getD default).vars e.s
 if i<0 then .er 12 else
 if e.op=18 then(r e.args[0]!).bind fun v=>.upd (fun m=>{ m with state:=setSt m.state own.toNat i.toNat v }) (.ok v)
 else .get fun m=>.ok (me m.state own.toNat i.toNat)
def j9(p:List Mod)(r:Ev):Ev:=fun own ns vs e=>.get fun m=>
 if m.fuel<=0 then .er 16 else .upd (fun m=>{ m with fuel:=m.fuel-1 }) <|
 let n:=aW e.op
 if n= -2\/(n≠-1/\n≠e.args.length)then .er 13
 else if e.op=0 then .ok (jW e.n)
 else if e.op=1 then(if e.n=0\/e.n=1 then .ok (cC (e.n== 1))else .er 13)
 else if e.op=2 then(match ij ns vs e.s with|some v=>.ok v|none=>.er 12)
 else if e.op=3\/e.op=4\/e.op=5\/e.op=6\/e.op=7 then(r own ns vs e.args[0]!).bind fun a=>(r own ns vs e.args[1]!).bind fun b=>jK e.op a b
 else if e.op=8\/e.op=9 then(boolX (r own ns vs e.args[0]!)).bind fun x=>if x=(e.op== 9)then .ok (cC (e.op== 9))else(boolX (r own ns vs e.args[1]!)).bind fun y=>.ok (cC y)
 else if e.op=10 then(boolX (r own ns vs e.args[0]!)).bind fun x=>.ok (cC !x)
 else if e.op=11 then(boolX (r own ns vs e.args[0]!)).bind fun x=>if x=true then r own ns vs e.args[1]! else r own ns vs e.args[2]!
 else if e.op=12 then(r own ns vs e.args[0]!).bind fun v=>r own (ns++[e.s]) (vs++[v]) e.args[1]!
 else if e.op=13 then gI (r own ns vs) e
 else if e.op=14 then(r own ns vs e.args[0]!).bind fun v=>(match eP v.names v.values e.s with|some x=>if v.kind=2 then .ok x else .er 13|none=>.er 13)
 else if e.op=15 then mb p r own ns vs e
 else if e.op=16 then sJ (r own ns vs e.args[0]!) e
 else sX p (r own ns vs) own e
def ba(p:List Mod):Nat->Ev
 |0=>fun _ _ _ _=>.er 16
 |n+1=>j9 p (ba p n)
end Go.Av.Ap
namespace Go.Av.Ap
def Rs.st{α:Type}:Rs α->Ms
 |.ok _ m=>m
 |.er _ m=>m
def Rs.on{α:Type}(f:Ms->Ms):Rs α->Rs α
 |.ok a m=>.ok a (f m)
 |.er e m=>.er e (f m)
def ug{α:Type}(y:X α):X α:=.get fun m=>if m.fuel<=0 then .er 16 else .upd (fun m=>{ m with fuel:=m.fuel-1 }) y
def MM(n a:Int):X Val:=.get fun m=>.upd (fun m=>{ m with world:=m.world.tail,deeds:=m.deeds++[⟨n,a,m.world.headD 0⟩] }) (.ok (jW (m.world.headD 0)))
structure Closed (p:List Mod) (Q:Int->(α:Type)->X α->Prop):Prop where
 ok:∀(o:Int)(α:Type)(a:α),Q o α (.ok a)
 er:∀(o:Int)(α:Type)(e:Int),e≠0->Q o α (.er e)
 bind:∀(o:Int)(α β:Type)(x:X α)(f:α->X β),Q o α x->(∀a,Q o β (f a))->Q o β (x.bind f)
 tick:∀(o:Int)(α:Type)(y:X α),Q o α y->Q o α (ug y)
 act:∀(o n a:Int),Q o Val (MM n a)
 set:∀(o:Int)(k:Nat)(v:Val),¬o<0->Q o Val (.upd (fun m=>{ m with state:=setSt m.state o.toNat k v }) (.ok v))
 get:∀(o:Int)(k:Nat),Q o Val (.get fun m=>.ok (me m.state o.toNat k))
 enter:∀(o a:Int)(r:Ev)(f:Fun)(l:List Val),¬a<0->a.toNat<p.length->f∈(p[a.toNat]?.getD default).funcs->(∀o ns vs e,Q o Val (r o ns vs e))->Q o Val (ff p r a f l)
def rk{p:List Mod}{a:Int}{s:bk}{f:Fun}(h:jm p a s=some f):¬a<0/\a.toNat<p.length/\f∈(p[a.toNat]?.getD default).funcs:=by
 unfold jm at h;by_cases h1:a<0
 ·simp[h1]at h
 ·rw[if_neg h1]at h;simp only at h;split at h
  ·cases h
  ·have hm:=Ov h;refine⟨h1,?_,hm⟩;rcases N7 a.toNat p.length with k|k
   ·exact k
   ·rw[NX k]at hm;cases hm
def LL{Q:Int->(α:Type)->X α->Prop}{o:Int}{α:Type}{c:Prop}[Decidable c](x y:X α)(h1:Q o α x)(h2:Q o α y):Q o α (if c then x else y):=by
 split
 ·exact h1
 ·exact h2
section
variable {p:List Mod} {Q:Int->(α:Type)->X α->Prop} (C:Closed p Q)
include C
theorem Closed.boolX{o:Int}{r:X Val}(h:Q o Val r):Q o Bool (boolX r):=by
 refine C.bind _ _ _ _ _ h fun v=>?_;split
 ·exact C.ok _ _ _
 ·exact C.er _ _ _ (by decide)
theorem Closed.listX{o:Int}{r:Exp->X Val}(h:∀e,Q o Val (r e)):∀l,Q o (List Val) (listX r l)
 |[]=>C.ok _ _ _
 |e:: l=>C.bind _ _ _ _ _ (h e) fun _=>C.bind _ _ _ _ _ (Closed.listX h l) fun _=>C.ok _ _ _
theorem Closed.step{r:Ev}(h:∀o ns vs e,Q o Val (r o ns vs e))(o:Int)(ns:List bk)(vs:List Val)(e:Exp):Q o Val (j9 p r o ns vs e):=by
 unfold j9;refine C.tick _ _ _ ?_;have B:=fun{α β:Type} {x:X α} {f:α->X β}=>C.bind o α β x f;have I:=@LL Q o;have er:=fun(α:Type) n (h:n≠0)=>C.er o α n h;have ok:=fun(α:Type) (a:α)=>C.ok o α a;refine I _ _ (er _ _ (by decide)) (I _ _ (ok _ _) (I _ _ (I _ _ (ok _ _) (er _ _ (by decide))) (I _ _ ?_ (I _ _ ?_ (I _ _ ?_ (I _ _ ?_ (I _ _ ?_ (I _ _ ?_ (I _ _ ?_ (I _ _ ?_ (I _ _ ?_ (I _ _ ?_ ?_))))))))))))
 ·split
  ·exact ok _ _
  ·exact er _ _ (by decide)
 ·refine B (h _ _ _ _) fun a=>B (h _ _ _ _) fun b=>?_;unfold jK;exact I _ _ (I _ _ (ok _ _) (er _ _ (by decide))) (I _ _ (I _ _ (ok _ _) (I _ _ (ok _ _) (I _ _ (ok _ _) (ok _ _)))) (er _ _ (by decide)))
 ·exact B (C.boolX (h _ _ _ _)) fun a=>I _ _ (ok _ _) (B (C.boolX (h _ _ _ _)) fun b=>ok _ _)
 ·exact B (C.boolX (h _ _ _ _)) fun a=>ok _ _
 ·exact B (C.boolX (h _ _ _ _)) fun a=>I _ _ (h _ _ _ _) (h _ _ _ _)
 ·exact B (h _ _ _ _) fun v=>h _ _ _ _
 ·unfold gI;exact I _ _ (I _ _ (B (C.listX (fun e=>h _ _ _ e) _) fun vs=>I _ _ (ok _ _) (er _ _ (by decide))) (er _ _ (by decide))) (er _ _ (by decide))
 ·refine B (h _ _ _ _) fun v=>?_;split
  ·exact I _ _ (ok _ _) (er _ _ (by decide))
  ·exact er _ _ (by decide)
 ·unfold mb;simp only;split
  ·exact er _ _ (by decide)
  ·rename_i f hf;obtain⟨h1,h2,h3⟩:=rk hf;exact I _ _ (I _ _ (B (C.listX (fun e=>h _ _ _ e) _) fun l=>C.enter _ _ _ _ _ h1 h2 h3 h) (er _ _ (by decide))) (er _ _ (by decide))
 ·unfold sJ;exact B (h _ _ _ _) fun v=>I _ _ (I _ _ (C.act _ _ _) (er _ _ (by decide))) (er _ _ (by decide))
 ·unfold sX;split
  ·exact er _ _ (by decide)
  ·rename_i ho;exact I _ _ (er _ _ (by decide)) (I _ _ (B (h _ _ _ _) fun v=>C.set _ _ _ ho) (C.get _ _))
theorem Closed.eval:∀(n:Nat)(o:Int)(ns:List bk)(vs:List Val)(e:Exp),Q o Val (ba p n o ns vs e)
 |0,_,_,_,_=>C.er _ _ _ (by decide)
 |n+1,o,ns,vs,e=>C.step (fun o ns vs e=>Closed.eval n o ns vs e) o ns vs e
end
def Mf(α:Type)(x:X α):Prop:=∀m e s,x m= .er e s->e≠0
def iy(p:List Mod)(a:Int)(f:Fun)(l:List Val)(m:Ms):Ms:={ m with calls:=if f.pub=true then m.calls++[⟨(p[a.toNat]?.getD default).name,f.name,l⟩]else m.calls,frames:=m.frames+1 }
def zf(p:List Mod):Closed p fun _=>Mf where
 ok:=fun _ _ a m e s h=>by cases h
 er:=fun _ _ a h m e s h2=>by cases h2;exact h
 bind:=fun _ _ _ x f hx hf m e s h=>by
  unfold X.bind at h;cases hr:x m with
  |er c t=>rw[hr]at h;cases h;exact hx m _ _ hr
  |ok a t=>rw[hr]at h;exact hf a t e s h
 tick:=fun _ _ y hy m e s h=>by
  unfold ug X.get at h;by_cases hf:m.fuel<=0
  ·simp only[hf,NS]at h;cases h;decide
  ·simp only[hf,NK]at h;exact hy _ e s h
 act:=fun _ n a m e s h=>by cases h
 set:=fun _ k v _ m e s h=>by cases h
 get:=fun _ k m e s h=>by cases h
 enter:=fun _ a r f l _ _ _ hr m e s h=>by
  unfold ff X.get at h;by_cases hf:m.frames<60
  ·simp only[hf,NS,X.upd,X.bind]at h;cases hq:r a (f.params.map (·.1)) l f.body { m with calls:=if f.pub=true then m.calls++[⟨(p[a.toNat]?.getD default).name,f.name,l⟩]else m.calls,frames:=m.frames+1 }with
   |ok b t=>rw[hq]at h;cases h
   |er c t=>rw[hq]at h;cases h;exact hr _ _ _ _ _ _ _ hq
  ·simp only[hf,NK]at h;cases h;decide
def wA{p:List Mod}{n:Nat}{o:Int}{ns:List bk}{vs:List Val}{e:Exp}{m s:Ms}{c:Int}(h:ba p n o ns vs e m= .er c s):c≠0:=(zf p).eval n o ns vs e m c s h
end Go.Av.Ap
namespace Go.Av.Ap
def uq(m:Ms):Prop:=(∀l∈m.state,∀v∈l,bU 4 v=true)/\(∀c∈m.calls,∀v∈c.args,bU 4 v=true)
def lI(m:Ms):List Nat:=m.state.map List.length
def RQ{α:Type}(x:X α)(Q:α->Prop):Prop:=∀m,uq m->uq (x m).st/\lI (x m).st=lI m/\∀a s,x m= .ok a s->Q a
def im{α:Type}{a:α}{Q:α->Prop}(h:Q a):RQ (.ok a) Q:=fun m hm=>⟨hm,rfl,fun b s e=>by cases e;exact h⟩
def fU{α:Type}{e:Int}{Q:α->Prop}:RQ (.er e) Q:=fun m hm=>⟨hm,rfl,fun b s e=>by cases e⟩
def dT{α β:Type}{x:X α}{f:α->X β}{Q:α->Prop}{R:β->Prop}(hx:RQ x Q)(hf:∀a,Q a->RQ (f a) R):RQ (x.bind f) R:=by
 intro m hm;obtain⟨h1,h2,h3⟩:=hx m hm;cases hr:x m with
 |er e s=>
  rw[hr]at h1 h2;simp only[X.bind,hr];exact⟨h1,h2,fun b s e=>by cases e⟩
 |ok a s=>
  rw[hr]at h1 h2;obtain⟨g1,g2,g3⟩:=hf a (h3 a s hr) s h1;simp only[X.bind,hr];exact⟨g1,g2.trans h2,g3⟩
def cq{α:Type}{c:Prop}[Decidable c]{x y:X α}{Q:α->Prop}(h1:c->RQ x Q)(h2:¬c->RQ y Q):RQ (if c then x else y) Q:=by
 split
 ·exact h1 ‹_›
 ·exact h2 ‹_›
abbrev Rv(v:Val):Prop:=bU 4 v=true
def iH(n:Int):Rv (jW n):=by simp[Rv,jW,bU,Val.names,Val.values,Val.kind]
def fH(b:Bool):Rv (cC b):=by cases b<;>rfl
theorem iV:(l:List Val)->(d:Nat)->(cV l<=d↔∀v∈l,cK v<=d)
 |[],d=>by simp[cV]
 |v:: l,d=>by
  simp only[cV,NP,forall_eq_or_imp];rw[<- iV l d];omega
def fF(v:Val):cK v=cV v.values+1:=by cases v;rfl
theorem tt:∀(d:Nat)(v:Val),bU (d+1) v=true->cK v<=d->bU d v=true
 |0,v,_,hl=>by rw[fF]at hl;omega
 | d+1,v,h,hl=>by
  rw[fF]at hl;unfold bU at h|-;split at h
  ·rename_i hk;rw[NE hk];exact h
  ·rename_i hk;rw[if_neg hk];simp only[NG,Oc]at h|-;exact⟨h.1,fun x hx=>tt d x (h.2 x hx) ((iV v.values d).1 (by omega) x hx)⟩
theorem Cs{ns:List bk}{vs:List Val}(hl:ns.length=vs.length)(ha:sG ns=true)(h8:ns.length<=8)(hv:∀v∈vs,Rv v)(h4:cK (.mk 2 0 ns vs)<=4):Rv (.mk 2 0 ns vs):=by
 have h3:cV vs<=3:=by
  rw[fF]at h4;have:(Val.mk 2 0 ns vs).values=vs:=rfl;rw[this]at h4;omega
 have h5:=(iV vs 3).1 h3;unfold Rv bU;rw[if_neg (show ¬(((Val.mk 2 0 ns vs).kind== 0||(Val.mk 2 0 ns vs).kind== 1)=true) by simp[Val.kind])];simp only[Nt,Ny,Nr,Nq,NG,Oc,Ol];exact⟨⟨⟨⟨⟨trivial,trivial⟩,hl⟩,OM h8⟩,ha⟩,fun x hx=>tt 3 x (hv x hx) (h5 x hx)⟩
theorem AF:∀(d:Nat)(v:Val),bU d v=true->bU (d+1) v=true
 |0,v,h=>by simp[bU]at h
 | d+1,v,h=>by
  unfold bU at h|-;split at h
  ·rename_i hk;rw[NE hk];exact h
  ·rename_i hk;rw[if_neg hk];simp only[NG,Oc]at h|-;exact⟨h.1,fun x hx=>AF d x (h.2 x hx)⟩
def xU{v x:Val}(h:Rv v)(hx:x∈v.values):Rv x:=by
 unfold Rv bU at h;split at h
 ·simp only[NG,Ol]at h;have:v.values=[]:=NV h.1.2;rw[this]at hx;cases hx
 ·simp only[NG,Oc]at h;exact AF 3 x (h.2 x hx)
def sg{v:Val}(h:Rv v):v.names.length=v.values.length:=by
 unfold Rv bU at h;split at h
 ·simp only[NG,Ol]at h;rw[h.1.1,h.1.2]
 ·simp only[NG,Ol]at h;exact h.1.1.1.2
theorem xu:∀(ns:List bk)(vs:List Val)(s:bk)(v:Val),ij ns vs s=some v->v∈vs
 | n:: ns,w:: vs,s,v,h=>by
  unfold ij at h;split at h
  ·rename_i x hx;cases h;exact OC _ (xu ns vs s v hx)
  ·split at h
   ·cases h;exact Oq
   ·cases h
 |[],_,_,_,h=>by simp[ij]at h
 |_:: _,[],_,_,h=>by simp[ij]at h
theorem qZ:∀(ns:List bk)(vs:List Val)(s:bk)(v:Val),eP ns vs s=some v->v∈vs
 |n:: ns,w:: vs,s,v,h=>by
  unfold eP at h;split at h
  ·cases h;exact Oq
  ·exact OC _ (qZ ns vs s v h)
 |[],_,_,_,h=>by simp[eP]at h
 |_:: _,[],_,_,h=>by simp[eP]at h
def kc(ns:List bk)(vs:List Val):Prop:=ns.length=vs.length/\∀v∈vs,Rv v
def qu{r:X Val}(h:RQ r Rv):RQ (boolX r) fun _=>True:=dT h fun _ _=>cq (fun _=>im trivial) (fun _=>fU)
theorem vu{r:Exp->X Val}(h:∀e,RQ (r e) Rv):∀l,RQ (listX r l) fun vs=>vs.length=l.length/\∀v∈vs,Rv v
 |[]=>im ⟨rfl,fun v hv=>by cases hv⟩
 |e:: l=>dT (h e) fun v hv=>dT (vu h l) fun vs hvs=>im ⟨by simp[hvs.1],fun w hw=>by
  rcases NP.1 hw with rfl|hw
  ·exact hv
  ·exact hvs.2 w hw⟩
def wW{st:List (List Val)}(h:∀l∈st,∀v∈l,Rv v)(i k:Nat)(hd:Rv default):Rv (me st i k):=by
 unfold me;rw[Oj,Oj];cases h1:st[i]? with
 |none=>simpa using hd
 |some l=>
  simp only[Option.getD_some];cases h2:l[k]? with
  |none=>simpa using hd
  |some v=>exact h l (Ov h1) v (Ov h2)
def Fy{p:List Mod}{r:Ev}{a:Int}{f:Fun}{l:List Val}(hr:∀o ns vs e,kc ns vs->RQ (r o ns vs e) Rv)(hl:l.length=f.params.length)(hv:∀v∈l,Rv v):RQ (ff p r a f l) Rv:=by
 have e0:∀m,ff p r a f l m=if m.frames<60 then((r a (f.params.map (·.1)) l f.body).bind fun v=>.upd (fun m=>{ m with frames:=m.frames-1 }) (.ok v)) (iy p a f l m)else .er 6 m:=fun m=>by
  unfold ff X.get;by_cases h:m.frames<60
  ·simp only[h,NS];rfl
  ·simp only[h,NK];rfl
 intro m hm;rw[e0];split
 ·have hb:RQ ((r a (f.params.map (·.1)) l f.body).bind fun v=>.upd (fun m=>{ m with frames:=m.frames-1 }) (.ok v)) Rv:=
   dT (hr _ _ _ _ ⟨by simp[hl],hv⟩) fun _ hv m hm=>⟨hm,rfl,fun a s e=>by cases e;exact hv⟩
  have hm':uq (iy p a f l m):=by
   refine⟨hm.1,fun c hc=>?_⟩;simp only[iy]at hc;split at hc
   ·rcases N6.1 hc with h|h
    ·exact hm.2 c h
    ·simp only[OA]at h;subst h;exact hv
   ·exact hm.2 c hc
  exact hb _ hm'
 ·exact⟨hm,rfl,fun _ _ e=>by cases e⟩
def right_step{p:List Mod}{r:Ev}(hr:∀o ns vs e,kc ns vs->RQ (r o ns vs e) Rv)(o:Int)(ns:List bk)(vs:List Val)(e:Exp)(hs:kc ns vs):RQ (j9 p r o ns vs e) Rv:=by
 have tick:∀y:X Val,RQ y Rv->RQ (ug y) Rv:=fun y hy m hm=>by
  unfold ug X.get;by_cases h:m.fuel<=0
  ·simp only[h,NS];exact⟨hm,rfl,fun _ _ e=>by cases e⟩
  ·simp only[h,NK];exact hy { m with fuel:=m.fuel-1 } hm
 have H:=fun e=>hr o ns vs e hs;refine tick _ ?_;refine cq (fun _=>fU) fun _=>cq (fun _=>im (iH _)) fun _=>cq (fun _=>cq (fun _=>im (fH _)) fun _=>fU) fun _=>cq (fun _=>?_) fun _=>
  cq (fun _=>?_) fun _=>cq (fun _=>?_) fun _=>cq (fun _=>?_) fun _=>cq (fun _=>?_) fun _=>cq (fun _=>?_) fun _=>cq (fun _=>?_) fun _=>cq (fun _=>?_) fun _=>
  cq (fun _=>?_) fun _=>cq (fun _=>?_) fun _=>?_
 ·split
  ·rename_i v hv;exact im (hs.2 v (xu _ _ _ _ hv))
  ·exact fU
 ·refine dT (H _) fun a ha=>dT (H _) fun b hb=>?_;unfold jK;exact cq (fun _=>cq (fun _=>im (fH _)) fun _=>fU) fun _=>cq (fun _=>cq (fun _=>im (iH _)) fun _=>cq (fun _=>im (iH _)) fun _=>cq (fun _=>im (iH _)) fun _=>im (fH _)) fun _=>fU
 ·exact dT (qu (H _)) fun a _=>cq (fun _=>im (fH _)) fun _=>dT (qu (H _)) fun b _=>im (fH _)
 ·exact dT (qu (H _)) fun a _=>im (fH _)
 ·exact dT (qu (H _)) fun a _=>cq (fun _=>H _) fun _=>H _
 ·exact dT (H _) fun v hv=>hr _ _ _ _ ⟨by simp[hs.1],fun w hw=>by
   rcases N6.1 hw with h|h
   ·exact hs.2 w h
   ·simp only[OA]at h;subst h;exact hv⟩
 ·unfold gI;exact cq (fun h1=>cq (fun h2=>dT (vu H _) fun vs hvs=>cq (fun h3=>im (Cs (by rw[hvs.1];exact h1.1) h1.2 h2 hvs.2 h3)) fun _=>fU) fun _=>fU) fun _=>fU
 ·refine dT (H _) fun v hv=>?_;split
  ·rename_i x hx;exact cq (fun _=>im (xU hv (qZ _ _ _ _ hx))) fun _=>fU
  ·exact fU
 ·unfold mb;simp only;split
  ·exact fU
  ·rename_i f hf;exact cq (fun _=>cq (fun h2=>dT (vu H _) fun l hl=>Fy hr (by rw[hl.1,h2]) hl.2) fun _=>fU) fun _=>fU
 ·unfold sJ;exact dT (H _) fun v hv=>cq (fun _=>cq (fun _ m hm=>⟨hm,rfl,fun a s e=>by cases e;exact iH _⟩) fun _=>fU) fun _=>fU
 ·unfold sX;refine cq (fun _=>fU) fun ho=>?_;simp only;refine cq (fun _=>fU) fun hi=>cq (fun _=>dT (H _) fun v hv m hm=>⟨⟨?_,hm.2⟩,?_,fun a s e=>by cases e;exact hv⟩) fun _ m hm=>⟨hm,rfl,fun a s e=>by cases e;exact wW hm.1 _ _ (iH 0)⟩
  ·intro l hl w hw;simp only[X.upd,X.ok,Rs.st,setSt]at hl;obtain⟨j,hj⟩:=List.mem_iff_getElem?.1 hl;rw[List.getElem?_modify]at hj;cases h1:m.state[j]? with
   |none=>simp[h1]at hj
   | some l0=>
    rw[h1]at hj;simp only[Option.map_eq_map,Oo,NB]at hj;have hold:=hm.1 l0 (Ov h1);split at hj
    ·subst hj;rcases List.mem_or_eq_of_mem_set hw with h|h
     ·exact hold w h
     ·subst h;exact hv
    ·subst hj;exact hold w hw
  ·simp only[X.upd,X.ok,Rs.st,lI,setSt];apply Pt;intro j;rw[Ou,Ou,List.getElem?_modify];cases m.state[j]? with
   |none=>rfl
   |some l0=>
    simp only[Oo];split<;>simp
theorem m0{p:List Mod}:∀(n:Nat)(o:Int)(ns:List bk)(vs:List Val)(e:Exp),kc ns vs->RQ (ba p n o ns vs e) Rv
 |0,_,_,_,_,_=>fU
 |n+1,o,ns,vs,e,hs=>right_step (fun o ns vs e h=>m0 n o ns vs e h) o ns vs e hs
def dA(world:List Int)(fuel:Int)(st:List (List Val)):Ms:=⟨fuel,0,world,[],[],st⟩
def nn(e:Exp)(ns:List bk)(vs:List Val):Rs Val:=
 if ns.length=vs.length/\vs.all (bU 4)=true then ba [] 100000 (-1) ns vs e (dA [] 100000 [])else .er 1 (dA [] 100000 [])
end Go.Av.Ap
namespace Go.Av.Ap
open Go Go.Av
theorem rr{α:Type}{F:α->Bool}:∀(l:List α)(i:Int),0<=i->(l.find? F=none/\bj F l i<0)\/∃(k:Nat)(h:k<l.length),bj F l i=i+k/\l.find? F=some l[k]
 |[],i,hi=>.inl ⟨rfl,by simp[bj]⟩
 | x:: l,i,hi=>by
  by_cases hx:F x=true
  ·exact .inr ⟨0,by simp,by simp[bj,hx],by simp[O9,hx]⟩
  ·have hx':F x=false:=by simpa using hx
   rcases rr l (i+1) (by omega)with⟨h1,h2⟩|⟨k,hk,h1,h2⟩
   ·exact .inl ⟨by rw[List.find?_cons_of_neg (by simp[hx']),h1],by simp[bj,hx'];exact h2⟩
   ·exact .inr ⟨k+1,by simpa using hk,by simp[bj,hx'];omega,by simp[O9,hx',h2]⟩
section
variable (R:aG->Prop) (E:Int->Prop)
variable {R E}
end
end Go.Av.Ap
namespace Go.Av.Ap
open Go Go.Av
def qe(a b:Int):Int:=if a<b then -1 else if b<a then 1 else 0
def uE(v w:Ver):Int:=if v.a≠w.a then qe v.a w.a else if v.b≠w.b then qe v.b w.b else qe v.c w.c
def GM(x:Rng)(v:Ver):Bool:=decide (uE x.lo v<=0)&&decide (uE v x.hi<0)
def oK(l:List Rng)(v:Ver):Bool:=l.any fun x=>GM x v
def ez(s:Seen)(a:Adv):Option Fun:=match jm s.prog (fG s.prog a.name) a.func with
 |none=>none
 |some f=>if(fG s.prog a.name).toNat<s.vsns.length/\oK a.ranges (s.vsns[(fG s.prog a.name).toNat]?.getD default)=true then some f else none
def gh(a:Adv):aG:=(a.name,a.func)
def cL(f:Fun)(a:Adv)(c:Call):Bool×Bool:=
 if c.module=a.name/\c.func=a.func/\c.args.length=f.params.length then(match nn a.cond (f.params.map (·.1)) c.args with
  |.ok v _=>if v.kind=1 then(v.n== 1,false)else(false,true)
  |.er _ _=>(false,true))
 else(false,false)
def iA{α:Type}(q:α->Bool):List α->Int->List Int
 |[],_=>[]
 |x:: l,k=>(if q x=true then[k]else[])++iA q l (k+1)
theorem rq{α:Type}{q:α->Bool}:∀ {l:List α} {k:Int},iA q l k=[]↔∀x∈l,q x=false
 |[],k=>by simp[iA]
 |x:: l,k=>by
  simp only[iA,List.append_eq_nil_iff,rq (l:=l),NP,forall_eq_or_imp];cases q x<;>simp
theorem rp{α:Type}(q:α->Bool):∀(l:List α)(k:Int),(iA q l k).length<=l.length
 |[],_=>NL _
 |x:: l,k=>by
  have:=rp q l (k+1)
  simp only[iA,N3,Of];split<;>simp<;>omega
def mH(s:Seen)(a:Adv):List Int:=match ez s a with
 |none=>[]
 |some f=>iA (fun c=>(cL f a c).1) s.calls 0
section
variable (U:List Mod->aG->List aG)
def dL(s:Seen)(a:Adv):List aG:=if(ez s a).isSome=true then U s.prog (gh a)else[]
def Ce(U:List Mod->aG->List aG)(s:Seen)(a:Adv)(f:Fun)(c:Call):Bool:=(cL f a c).2||(!f.pub&&decide ((c.module,c.func)∈dL U s a))
def eD(s:Seen)(a:Adv):Int:=match ez s a with
 |none=>0
 |some f=>if s.calls.any (fun c=>(cL f a c).1)=true then 2 else if dL U s a=[]then 0 else if s.whole=false then 1 else if s.calls.any (Ce U s a f)=true then 1 else 0
def vY(l:List Seen)(a:Adv):List Int:=iA (fun s=>!s.whole&&eD U s a== 1) l 0
end
end Go.Av.Ap
namespace Go.Av.Ap
def aZ{α β:Type}{m:M α}{f:α->M β}{h h':Hp}{a:α}(e:m h= .ok a h'):ae m f h=f a h':=by simp only[ae,e]
def Au{α β:Type}{m:M α}{f:α->M β}{h h':Hp}{v:AV}(e:m h= .pan v h'):ae m f h= .pan v h':=by simp only[ae,e]
def bF(l:List Val):List AV:=l.flatMap fun v=>aa v.av
def fY(l:List Val):(bF l).length=l.length*4:=by
 induction l with
 |nil=>rfl
 |cons v l ih=>simp only[bF,OV,N3]at ih |-;rw[ih];simp;omega
def kI{l:List Val}{k:Nat}(h:k<l.length):((bF l).drop (k*4)).take 4=aa (l[k]).av:=by
 induction l generalizing k with
 |nil=>simp at h
 | cons v l ih=>
  cases k with
  |zero=>simp[bF]
  |succ k=>
   have:=ih (k:=k) (by simpa using h)
   simp only[bF,OV]at this |-;have e:(k+1)*4=(aa v.av).length+k*4:=by simp;omega
   rw[e,List.drop_append,List.getElem_cons_succ];simp only[QU];rw[List.drop_of_length_le (by omega),N4];exact this
def oi{l:List Val}{k:Nat}(h:k<l.length)(v:Val):setCells (bF l) (k*4) (aa v.av)=bF (l.set k v):=by
 induction l generalizing k with
 |nil=>simp at h
 | cons w l ih=>
  cases k with
  |zero=>
   simp only[setCells,bF,OV,PS,Px,N4,List.set_cons_zero];congr 1;have:0+(aa v.av).length=(aa w.av).length:=by simp
   rw[this,List.drop_left]
  |succ k=>
   have:=ih (k:=k) (by simpa using h)
   simp only[setCells,bF,OV,List.set_cons_succ]at this |-;have e:(k+1)*4=(aa w.av).length+k*4:=by simp;omega
   have e2:(aa w.av).length+k*4+(aa v.av).length-(aa w.av).length=k*4+(aa v.av).length:=by omega
   have e3:(aa w.av).length+k*4-(aa w.av).length=k*4:=by omega
   rw[e,Py,List.drop_append,e2,e3,OY (by omega),List.drop_of_length_le (by omega)];simp only[N4,Oz];congr 1;rw[<- Oz];exact this
def gl(l:List Deed):List AV:=l.flatMap fun d=>[.int .i64 d.effect,.int .i64 d.arg,.int .i64 d.answer]
def ul(tag:Nat->Nat)(k:Nat)(h:Hp)(l:List Val)(v:AV):Prop:=v=vals l\/∃r,v= .hs r 0 l.length 4 true/\tag r=k/\h[r]? = some (bF l)
def fk(tag:Nat->Nat)(h:Hp):List Call->List AV->Prop
 |[],cs=>cs=[]
 |c:: l,cs=>∃av rest,cs= .str c.module:: .str c.func:: av:: rest/\ul tag 4 h c.args av/\fk tag h l rest
def cR(tag:Nat->Nat)(h:Hp):Nat->List bk->List (List Val)->List AV->Prop
 |_,[],[],cs=>cs=[]
 |i,n:: ns,l:: st,cs=>∃av rest,cs= .str n:: av:: rest/\((l=[]/\av= .sl [])\/∃r,av= .hs r 0 l.length 4 true/\tag r=6+i/\h[r]? = some (bF l))/\cR tag h (i+1) ns st rest
 |_,_,_,_=>False
def FU(tag:Nat->Nat)(k sz n:Nat)(cells:List AV->Prop)(v:AV)(h:Hp):Prop:=(n=0/\v= .hn)\/∃q cs,v= .hs q 0 n sz true/\0<n/\tag q=k/\h[q]? = some cs/\cs.length=n*sz/\cells cs
structure SNm where
 names:List bk
 sv:AV
 cells:List AV
 told:Bool
structure RepT (row:Ms->AV->AV->AV->List AV) (nm:SNm) (tag:Nat->Nat) (dv cv sv:AV) (m:Ms) (h:Hp):Prop where
 r0:h[0]? = some (row m dv cv sv)
 t0:tag 0=0
 ds:FU tag 2 3 m.deeds.length (fun cs=>cs=gl m.deeds) dv h
 cs:FU tag 3 3 m.calls.length (fun cs=>fk tag h m.calls cs) cv h
 st:FU tag 5 2 m.state.length (fun cs=>cs=nm.cells/\cR tag h 0 nm.names m.state cs) sv h
 sve:sv=nm.sv
 wok:nm.told=true->m.world=[]
def M7(row:Ms->AV->AV->AV->List AV)(nm:SNm)(m:Ms)(h:Hp):Prop:=∃tag dv cv sv,RepT row nm tag dv cv sv m h
def Kp(tag tag':Nat->Nat)(ks:Nat->Prop)(h h':Hp):Prop:=∀r cs,h[r]? = some cs->¬ks (tag r)->h'[r]? = some cs/\tag' r=tag r
def ul.keep{tag tag':Nat->Nat}{ks:Nat->Prop}{h h':Hp}(K:Kp tag tag' ks h h'){k:Nat}(hk:¬ks k){l:List Val}{v:AV}(H:ul tag k h l v):ul tag' k h' l v:=by
 rcases H with H|⟨r,h1,h2,h3⟩
 ·exact .inl H
 ·have:=K r _ h3 (by rw[h2];exact hk)
  exact .inr ⟨r,h1,this.2.trans h2,this.1⟩
theorem fk.keep{tag tag':Nat->Nat}{ks:Nat->Prop}{h h':Hp}(K:Kp tag tag' ks h h')(hk:¬ks 4):{l:List Call} ->{cs:List AV} ->fk tag h l cs->fk tag' h' l cs
 |[],_,H=>H
 |_:: _,_,⟨av,rest,h1,h2,h3⟩=>⟨av,rest,h1,h2.keep K hk,h3.keep K hk⟩
theorem cR.keep{tag tag':Nat->Nat}{ks:Nat->Prop}{h h':Hp}(K:Kp tag tag' ks h h')(hk:∀i,¬ks (6+i)):{i:Nat} ->{nm:List bk} ->{st:List (List Val)} ->{cs:List AV} ->cR tag h i nm st cs->cR tag' h' i nm st cs
 |_,[],[],_,H=>H
 | i,_:: _,_:: _,_,⟨av,rest,h1,h2,h3⟩=>⟨av,rest,h1,by
   rcases h2 with h2|⟨r,g1,g2,g3⟩
   ·exact .inl h2
   ·have:=K r _ g3 (by rw[g2];exact hk i)
    exact .inr ⟨r,g1,this.2.trans g2,this.1⟩,cR.keep K hk h3⟩
 |_,[],_:: _,_,H=>H.elim
 |_,_:: _,[],_,H=>H.elim
def FU.keep{tag tag':Nat->Nat}{ks:Nat->Prop}{h h':Hp}(K:Kp tag tag' ks h h'){k sz n:Nat}{c c':List AV->Prop}{v:AV}(hk:¬ks k)(hc:∀cs,c cs->c' cs)(H:FU tag k sz n c v h):FU tag' k sz n c' v h':=by
 rcases H with H|⟨q,cs,h1,h2,h3,h4,h5,h6⟩
 ·exact .inl H
 ·have:=K q _ h4 (by rw[h3];exact hk)
  exact .inr ⟨q,cs,h1,h2,this.2.trans h3,this.1,h5,hc _ h6⟩
def RepT.set0{row:Ms->AV->AV->AV->List AV}{nm:SNm}{tag:Nat->Nat}{dv cv sv:AV}{m m':Ms}{h:Hp}(R:RepT row nm tag dv cv sv m h)(h1:m'.deeds=m.deeds)(h2:m'.calls=m.calls)(h3:m'.state=m.state)(h4:m.world=[]->m'.world=[]):
  RepT row nm tag dv cv sv m' (h.set 0 (row m' dv cv sv)):=by
 have hlt:0<h.length:=(NO.1 R.r0).1;have K:Kp tag tag (fun k=>k=0) h (h.set 0 (row m' dv cv sv)):=fun r cs hr hk=>by
  have:r≠0:=fun e=>hk (by rw[e];exact R.t0);exact⟨by rw[OW (Qr this)];exact hr,rfl⟩
 refine⟨by rw[OZ hlt],R.t0,?_,?_,?_,R.sve,fun t=>h4 (R.wok t)⟩
 ·rw[h1];exact R.ds.keep K (by decide) fun _ h=>h
 ·rw[h2];exact R.cs.keep K (by decide) fun _ h=>h.keep K (by decide)
 ·rw[h3];exact R.st.keep K (by decide) fun _ h=>⟨h.1,h.2.keep K (by omega)⟩
def RepT.more{row:Ms->AV->AV->AV->List AV}{nm:SNm}{tag:Nat->Nat}{dv cv sv:AV}{m:Ms}{h:Hp}(R:RepT row nm tag dv cv sv m h)(x:List AV)(k:Nat):
  RepT row nm (fun i=>if i=h.length then k else tag i) dv cv sv m (h++[x])/\Kp tag (fun i=>if i=h.length then k else tag i) (fun _=>False) h (h++[x]):=by
 have K:Kp tag (fun i=>if i=h.length then k else tag i) (fun _=>False) h (h++[x]):=fun r cs hr _=>by
  have hlt:r<h.length:=(NO.1 hr).1;exact⟨by rw[NJ hlt];exact hr,by simp only;rw[if_neg (by omega)]⟩
 exact⟨⟨(K 0 _ R.r0 id).1,(K 0 _ R.r0 id).2.trans R.t0,R.ds.keep K id fun _ h=>h,R.cs.keep K id fun _ h=>h.keep K id,R.st.keep K id fun _ h=>⟨h.1,h.2.keep K (fun _=>id)⟩,R.sve,R.wok⟩,K⟩
def Nx{tag:Nat->Nat}{h:Hp}{q:Nat}{k:Nat}(hq:tag q=k)(x:List AV):Kp tag tag (fun j=>j=k) h (h.set q x):=fun r cs hr hk=>by
 have:r≠q:=fun e=>hk (by rw[e];exact hq);exact⟨by rw[OW (Qr this)];exact hr,rfl⟩
def bO{T:TT}{t:Nat}{ti:TI}(ht:T t=some ti)(ha:ti.agg=false){h:Hp}{l k:Nat}{cs:List AV}{v:AV}(h0:h[l]? = some cs)(h1:cs[k]? = some v):aX T t (.hp l k) h= .ok v h:=by
 simp[aX,ht,h0,ha,h1]
def oN{T:TT}{t:Nat}{ti:TI}(ht:T t=some ti)(ha:ti.agg=true){h:Hp}{l k:Nat}{cs:List AV}(h0:h[l]? = some cs)(hle:k+ti.size<=cs.length):aX T t (.hp l k) h= .ok (.agg ((cs.drop k).take ti.size)) h:=by
 simp[aX,ht,h0,ha,hle]
def dx{T:TT}{t:Nat}{ti:TI}(ht:T t=some ti){h:Hp}{l k:Nat}{cs:List AV}{v:AV}(h0:h[l]? = some cs)(hv:cE ti.size v=true)(hle:k+ti.size<=cs.length)(hp:0<ti.size):
  cj T t (.hp l k) v h= .ok (.tup []) (h.set l (setCells cs k (aa v))):=by
 simp[cj,ht,h0,hv,hle,hp]
def DX{T:TT}{t e:Nat}{ti ei:TI}(ht:T t=some ti)(hk:ti.kind= .slice e)(he:T e=some ei){x:AV}(hx:cE ei.size x=true)(hb:0<ei.bytes)(hs:0<ei.size)(hc:ei.bytes<=140737488355328)(h:Hp):
  appH T t false .hn (.sl [x]) h= .ok (.hs h.length 0 1 ei.size ei.agg) (h++[aa x]):=by
 have:dw ei.size [x]=true:=by simp[dw,hx]
 simp[appH,ht,hk,he,iQ,this,hb,hs,kO,hc]
def DY{T:TT}{t e:Nat}{ti ei:TI}(ht:T t=some ti)(hk:ti.kind= .slice e)(he:T e=some ei){x:AV}(hx:cE ei.size x=true)(hb:0<ei.bytes)(hs:0<ei.size){h:Hp}{q n:Nat}{cs:List AV}(h0:h[q]? = some cs)(hok:cs.all bh=true)(hl:cs.length=n*ei.size)(hn:0<n)(hc:(n+1)*ei.bytes<=140737488355328):appH T t false (.hs q 0 n ei.size ei.agg) (.sl [x]) h= .ok (.hs h.length 0 (n+1) ei.size ei.agg) ((h.set q [])++[cs++aa x]):=by
 have h1:dw ei.size [x]=true:=by simp[dw,hx]
 have h2:List.all cs bh=true:=hok;simp only[appH,ht,hk,he,iQ,h1,hb,hs,kO,h0,h2,hl,hn,OH,P7,NF,OB,Oy,List.isEmpty_cons,NQ,OV,List.flatMap_nil,OE];have h5:cs.take (n*ei.size)=cs:=OY (by omega);have h6:0<n*ei.size:=PQ hn hs;rw[OM hc,h5];simp[h6]
theorem wo{T:TT}{t e:Nat}{ti ei:TI}(ht:T t=some ti)(hk:ti.kind= .slice e)(he:T e=some ei)(h4:ei.size=4)(hag:ei.agg=true)(hb:0<ei.bytes)(call:FuncId->List AV->M AV)(l:List Val)(hc:l.length*ei.bytes<=140737488355328)(h:Hp):
  fL T t call [vals l] h=if l=[]then .ok (vals []) h else .ok (.hs h.length 0 l.length 4 true) (h++[bF l]):=by
 have h1:dw 4 (dP l)=true:=Ck l;have hlen:(dP l).length=l.length:=by simp[eu]
 have hfl:(dP l).flatMap aa=bF l:=by simp[eu,bF,List.flatMap_map]
 cases l with
 |nil=>simp[fL,appH,ht,hk,he,iQ,hb,h4,kO,vals,dP,dw]
 |cons v l=>
  have hne:(dP (v:: l)).isEmpty=false:=rfl;unfold fL vals appH;simp only[ht,hk,he,iQ,h4,h1,hb,kO,OH,P7,Qm,NF,hne,NQ,hlen,hfl,hag];rw[OM hc];simp
theorem fk.ok{tag:Nat->Nat}{h:Hp}:{l:List Call} ->{cs:List AV} ->fk tag h l cs->cs.all bh=true/\cs.length=l.length*3
 |[],cs,H=>by cases H;exact⟨rfl,rfl⟩
 | c:: l,_,⟨av,rest,h1,h2,h3⟩=>by
  subst h1;obtain⟨g1,g2⟩:=h3.ok;have:bh av=true:=by
   rcases h2 with rfl|⟨r,rfl,_⟩<;>rfl
  refine⟨?_,by simp[g2];omega⟩;rw[OT,OT,OT,this,g1];rfl
theorem fk.snoc{tag:Nat->Nat}{h:Hp}{c:Call}{av:AV}(ha:ul tag 4 h c.args av):{l:List Call} ->{cs:List AV} ->fk tag h l cs->fk tag h (l++[c]) (cs++[.str c.module,.str c.func,av])
 |[],cs,H=>by cases H;exact⟨av,[],rfl,ha,rfl⟩
 |d:: l,_,⟨av',rest,h1,h2,h3⟩=>⟨av',rest++[.str c.module,.str c.func,av],by rw[h1];rfl,h2,fk.snoc ha h3⟩
def nf(l:List Deed):(gl l).all bh=true:=by simp[gl,bh]
theorem cR.at{tag:Nat->Nat}{h:Hp}:{i:Nat} ->{nm:List bk} ->{st:List (List Val)} ->{cs:List AV} ->cR tag h i nm st cs->∀(j:Nat)(l:List Val),st[j]? = some l->
  ∃av,cs[j*2+1]? = some av/\((l=[]/\av= .sl [])\/∃r,av= .hs r 0 l.length 4 true/\tag r=6+(i+j)/\h[r]? = some (bF l))
 |_,[],[],_,_,j,l,hj=>by simp at hj
 | i,_:: _,_:: _,_,⟨av,rest,h1,h2,h3⟩,j,l,hj=>by
  subst h1;cases j with
  |zero=>simp at hj;subst hj;exact⟨av,rfl,h2⟩
  |succ j=>
   obtain⟨av',g1,g2⟩:=h3.at j l (by simpa using hj);refine⟨av',?_,?_⟩
   ·rw[show (j+1)*2+1=j*2+1+2 by omega];simpa using g1
   ·rw[show i+(j+1)=i+1+j by omega];exact g2
 |_,[],_:: _,_,H,_,_,_=>H.elim
 |_,_:: _,[],_,H,_,_,_=>H.elim
theorem cR.len{tag:Nat->Nat}{h:Hp}:{i:Nat} ->{nm:List bk} ->{st:List (List Val)} ->{cs:List AV} ->cR tag h i nm st cs->nm.length=st.length
 |_,[],[],_,_=>rfl
 |_,_:: _,_:: _,_,⟨_,_,_,_,h3⟩=>by simp[h3.len]
 |_,[],_:: _,_,H=>H.elim
 |_,_:: _,[],_,H=>H.elim
theorem cR.set{tag:Nat->Nat}{h:Hp}{r k:Nat}{v:Val}:{i:Nat} ->{nm:List bk} ->{st:List (List Val)} ->{cs:List AV} ->cR tag h i nm st cs->∀(j:Nat)(l:List Val),st[j]? = some l->tag r=6+(i+j)->h[r]? = some (bF l)->cs[j*2+1]? = some (.hs r 0 l.length 4 true)->
  k<l.length->cR tag (h.set r (bF (l.set k v))) i nm (setSt st j k v) cs
 |_,[],[],_,_,j,l,hj,_,_,_,_=>by simp at hj
 | i, n:: ns,l0:: st,_,⟨av,rest,h1,h2,h3⟩,j,l,hj,ht,hr,hc,hk=>by
  subst h1;have hlt:r<h.length:=(NO.1 hr).1;cases j with
  | zero=>
   simp only[Od,NB]at hj;subst hj;simp only[PS,NU,Pw,Od,NB]at hc;have e:setSt (l0:: st) 0 k v=l0.set k v:: st:=by simp[setSt]
   rw[e];refine⟨av,rest,rfl,.inr ⟨r,by rw[hc,Pr],ht,OZ hlt⟩,?_⟩;have K:Kp tag tag (fun t=>t=6+i) h (h.set r (bF (l0.set k v))):=Nx (by rw[ht];rfl) _;have key:∀ {i':Nat} {nm':List bk} {st':List (List Val)} {cs':List AV},i<i'->cR tag h i' nm' st' cs'->cR tag (h.set r (bF (l0.set k v))) i' nm' st' cs':=by
    intro i' nm' st'
    induction st' generalizing i' nm' with
    |nil=>intro cs' hi H;cases nm' with
     |nil=>exact H
     |cons _ _=>exact H.elim
    | cons a st' ih=>intro cs' hi H;cases nm' with
     |nil=>exact H.elim
     | cons b nm'=>
      obtain⟨av2,rest2,k1,k2,k3⟩:=H;refine⟨av2,rest2,k1,?_,ih (by omega) k3⟩;rcases k2 with k2|⟨r2,g1,g2,g3⟩
      ·exact .inl k2
      ·have:=K r2 _ g3 (by rw[g2];omega)
       exact .inr ⟨r2,g1,g2,this.1⟩
   exact key (Qo i) h3
  | succ j=>
   have e:setSt (l0:: st) (j+1) k v=l0:: setSt st j k v:=by simp[setSt]
   rw[e];have hc':rest[j*2+1]? = some (.hs r 0 l.length 4 true):=by
    rw[show (j+1)*2+1=j*2+1+2 by omega]at hc;simpa using hc
   refine⟨av,rest,rfl,?_,h3.set j l (by simpa using hj) (by rw[ht];omega) hr hc' hk⟩;rcases h2 with h2|⟨r2,g1,g2,g3⟩
   ·exact .inl h2
   ·have:r2≠r:=fun e=>by rw[e,ht]at g2;omega
    exact .inr ⟨r2,g1,g2,by rw[OW (Qr this)];exact g3⟩
 |_,[],_:: _,_,H,_,_,_,_,_,_,_=>H.elim
 |_,_:: _,[],_,H,_,_,_,_,_,_,_=>H.elim
def Kp.trans{a b c:Nat->Nat}{ks js:Nat->Prop}{h h1 h2:Hp}(K:Kp a b ks h h1)(J:Kp b c js h1 h2):Kp a c (fun k=>ks k\/js k) h h2:=fun r cs hr hk=>by
 obtain⟨k1,k2⟩:=K r cs hr fun h=>hk (.inl h);obtain⟨j1,j2⟩:=J r cs k1 fun h=>hk (.inr (by rwa [k2]at h));exact⟨j1,j2.trans k2⟩
def Kp.new(tag:Nat->Nat)(h:Hp)(x:List AV)(k:Nat):Kp tag (fun i=>if i=h.length then k else tag i) (fun _=>False) h (h++[x]):=fun r cs hr _=>by
 have hlt:r<h.length:=(NO.1 hr).1;exact⟨by rw[NJ hlt];exact hr,by simp only;rw[if_neg (by omega)]⟩
def Kp.mono{a b:Nat->Nat}{ks js:Nat->Prop}{h h1:Hp}(K:Kp a b ks h h1)(hj:∀k,ks k->js k):Kp a b js h h1:=fun r cs hr hk=>K r cs hr fun h=>hk (hj _ h)
def nV{T:TT}{t e:Nat}{ti ei:TI}(ht:T t=some ti)(hk:ti.kind= .slice e)(he:T e=some ei){sz:Nat}(h3:ei.size=sz)(hsz:0<sz)(hag:ei.agg=true)(hb:0<ei.bytes){tag:Nat->Nat}{k n:Nat}{P:List AV->Prop}{v x:AV}{h:Hp}(H:FU tag k sz n P v h)(hP0:n=0->P [])(hok:∀cs,P cs->cs.all bh=true)(hx:cE sz x=true)(hc:(n+1)*ei.bytes<=140737488355328):
  ∃h1 v' tag',appH T t false v (.sl [x]) h= .ok v' h1/\Kp tag tag' (fun j=>j=k) h h1/\FU tag' k sz (n+1) (fun cs'=>∃cs,P cs/\cs'=cs++aa x) v' h1/\bh v'=true:=by
 have hxl:(aa x).length=sz:=by
  unfold cE at hx;simp only[NG,Ol]at hx;have h1:=hx.1;cases x<;>simp only[cM,NB,reduceCtorEq]at h1<;>simp only[aa,Oy]<;>exact h1
 have hx':cE ei.size x=true:=by rw[h3];exact hx
 rcases H with⟨hn,rfl⟩|⟨q,cs,rfl,hn,hq,hcs,hl,hp⟩
 ·subst hn;refine⟨_,_,_,DX ht hk he hx' hb (by omega) (by omega) h,(Kp.new tag h (aa x) k).mono fun _ h=>h.elim,.inr ⟨h.length,aa x,by rw[h3,hag],by omega,by simp,by simp,by simpa using hxl,[],hP0 rfl,rfl⟩,rfl⟩
 ·have e1:=DY ht hk he hx' hb (by omega) hcs (hok cs hp) (by rw[h3];exact hl) hn hc;rw[h3,hag]at e1;have K1:Kp tag tag (fun j=>j=k) h (h.set q []):=Nx hq [];have K2:=Kp.new tag (h.set q []) (cs++aa x) k;refine⟨_,_,_,e1,(K1.trans K2).mono fun j h=>h.elim id False.elim,.inr ⟨h.length,cs++aa x,rfl,by omega,by simp,?_,by rw[N3,hl,hxl,Ow,Nat.one_mul],cs,hp,rfl⟩,rfl⟩;have:(h.set q []).length=h.length:=by simp
  rw[<- this];simp
def RepT.pushDeed{row:Ms->AV->AV->AV->List AV}{nm:SNm}{tag tag':Nat->Nat}{dv dv' cv sv:AV}{m m':Ms}{h h1:Hp}{d:Deed}(R:RepT row nm tag dv cv sv m h)(K:Kp tag tag' (fun j=>j=2) h h1)(H:FU tag' 2 3 (m.deeds.length+1) (fun cs'=>∃cs,cs=gl m.deeds/\cs'=cs++aa d.av) dv' h1)(hd:m'.deeds=m.deeds++[d])(hc:m'.calls=m.calls)(hs:m'.state=m.state)(h4:m.world=[]->m'.world=[]):RepT row nm tag' dv' cv sv m' (h1.set 0 (row m' dv' cv sv)):=by
 obtain⟨k1,k2⟩:=K 0 _ R.r0 (by rw[R.t0];decide);have hlt:0<h1.length:=(NO.1 k1).1;have t0:=k2.trans R.t0;have K0:Kp tag' tag' (fun j=>j=0) h1 (h1.set 0 (row m' dv' cv sv)):=Nx t0 _;refine⟨OZ hlt,t0,?_,?_,?_,R.sve,fun t=>h4 (R.wok t)⟩
 ·rw[hd,N3];refine H.keep K0 (by decide) ?_;rintro cs' ⟨cs,rfl,rfl⟩;show gl m.deeds++[AV.int .i64 d.effect,.int .i64 d.arg,.int .i64 d.answer]=_;simp[gl]
 ·rw[hc];exact (R.cs.keep K (c':=fk tag' h1 m.calls) (by decide) fun _ h=>h.keep K (by decide)).keep K0 (by decide) fun _ h=>h.keep K0 (by decide)
 ·rw[hs];exact (R.st.keep K (c':=fun cs=>cs=nm.cells/\cR tag' h1 0 nm.names m.state cs) (by decide) fun _ h=>⟨h.1,h.2.keep K (by omega)⟩).keep K0 (by decide) fun _ h=>⟨h.1,h.2.keep K0 (by omega)⟩
def RepT.pushCall{row:Ms->AV->AV->AV->List AV}{nm:SNm}{tag tag':Nat->Nat}{dv cv cv' sv:AV}{m m':Ms}{h h1:Hp}{c:Call}{av:AV}(R:RepT row nm tag dv cv sv m h)(K:Kp tag tag' (fun j=>j=3) h h1)(ha:ul tag 4 h c.args av)(H:FU tag' 3 3 (m.calls.length+1) (fun cs'=>∃cs,fk tag h m.calls cs/\cs'=cs++[.str c.module,.str c.func,av]) cv' h1)(hd:m'.deeds=m.deeds)(hc:m'.calls=m.calls++[c])(hs:m'.state=m.state)(h4:m.world=[]->m'.world=[]):RepT row nm tag' dv cv' sv m' (h1.set 0 (row m' dv cv' sv)):=by
 obtain⟨k1,k2⟩:=K 0 _ R.r0 (by rw[R.t0];decide);have hlt:0<h1.length:=(NO.1 k1).1;have t0:=k2.trans R.t0;have K0:Kp tag' tag' (fun j=>j=0) h1 (h1.set 0 (row m' dv cv' sv)):=Nx t0 _;refine⟨OZ hlt,t0,?_,?_,?_,R.sve,fun t=>h4 (R.wok t)⟩
 ·rw[hd];exact (R.ds.keep K (c':=fun cs=>cs=gl m.deeds) (by decide) fun _ h=>h).keep K0 (by decide) fun _ h=>h
 ·rw[hc,N3];refine H.keep K0 (by decide) ?_;rintro cs' ⟨cs,hcs,rfl⟩;exact ((hcs.keep K (by decide)).snoc (ha.keep K (by decide))).keep K0 (by decide)
 ·rw[hs];exact (R.st.keep K (c':=fun cs=>cs=nm.cells/\cR tag' h1 0 nm.names m.state cs) (by decide) fun _ h=>⟨h.1,h.2.keep K (by omega)⟩).keep K0 (by decide) fun _ h=>⟨h.1,h.2.keep K0 (by omega)⟩
def RepT.var{row:Ms->AV->AV->AV->List AV}{nm:SNm}{tag:Nat->Nat}{dv cv sv:AV}{m:Ms}{h:Hp}(R:RepT row nm tag dv cv sv m h)(hrow:∀st,row { m with state:=st } dv cv sv=row m dv cv sv){i:Nat}{l:List Val}(hl:m.state[i]? = some l)(hne:l≠[]):
  ∃q r,nm.sv= .hs q 0 m.state.length 2 true/\h[q]? = some nm.cells/\nm.cells[i*2+1]? = some (.hs r 0 l.length 4 true)/\nm.cells.length=m.state.length*2/\h[r]? = some (bF l)/\
   ∀(k:Nat)(v:Val),k<l.length->RepT row nm tag dv cv sv { m with state:=setSt m.state i k v } (h.set r (bF (l.set k v))):=by
 have hi:i<m.state.length:=(NO.1 hl).1;rcases R.st with⟨h0,_⟩|⟨q,cs,h1,h2,h3,h4,h5,rfl,h6⟩
 ·omega
 ·obtain⟨av,g1,g2⟩:=h6.at i l hl;rcases g2 with⟨g2,_⟩|⟨r,rfl,g3,g4⟩
  ·exact absurd g2 hne
  ·rw[NU]at g3;refine⟨q,r,by rw[<- R.sve,h1],h4,g1,h5,g4,fun k v hk=>?_⟩;have K:Kp tag tag (fun j=>j=6+i) h (h.set r (bF (l.set k v))):=Nx g3 _;refine⟨?_,R.t0,?_,?_,?_,R.sve,R.wok⟩
   ·rw[hrow];exact (K 0 _ R.r0 (by rw[R.t0];omega)).1
   ·exact R.ds.keep K (by omega) fun _ h=>h
   ·exact R.cs.keep K (by omega) fun _ h=>h.keep K (by omega)
   ·right;have hq:r≠q:=fun e=>by rw[e,h3]at g3;omega
    refine⟨q,nm.cells,by rw[h1];simp[setSt],by simpa [setSt]using h2,h3,by rw[OW hq];exact h4,by simpa [setSt]using h5,rfl,?_⟩;exact h6.set i l hl (by rw[NU];exact g3) g4 g1 hk
theorem cR.snoc{tag:Nat->Nat}{h:Hp}{n:bk}{l:List Val}{av:AV}:{i:Nat} ->{nm:List bk} ->{st:List (List Val)} ->{cs:List AV} ->cR tag h i nm st cs->
  ((l=[]/\av= .sl [])\/∃r,av= .hs r 0 l.length 4 true/\tag r=6+(i+st.length)/\h[r]? = some (bF l))->cR tag h i (nm++[n]) (st++[l]) (cs++[.str n,av])
 |i,[],[],cs,H,ha=>by
  have H':cs=[]:=H;subst H';exact⟨av,[],rfl,ha,rfl⟩
 |i,_:: _,l0:: st,_,⟨av',rest,h1,h2,h3⟩,ha=>by
  refine⟨av',rest++[.str n,av],by rw[h1];rfl,h2,h3.snoc ?_⟩;rcases ha with ha|⟨r,g1,g2,g3⟩
  ·exact .inl ha
  ·exact .inr ⟨r,g1,by rw[g2];simp;omega,g3⟩
 |_,[],_:: _,_,H,_=>H.elim
 |_,_:: _,[],_,H,_=>H.elim
theorem cR.ok{tag:Nat->Nat}{h:Hp}:{i:Nat} ->{nm:List bk} ->{st:List (List Val)} ->{cs:List AV} ->cR tag h i nm st cs->cs.all bh=true
 |_,[],[],cs,H=>by
  have H':cs=[]:=H;subst H';rfl
 | _,_:: _,_:: _,_,⟨av,rest,h1,h2,h3⟩=>by
  subst h1;have:bh av=true:=by
   rcases h2 with⟨_,rfl⟩|⟨r,rfl,_⟩<;>rfl
  rw[OT,OT,this,h3.ok];rfl
 |_,[],_:: _,_,H=>H.elim
 |_,_:: _,[],_,H=>H.elim
theorem fk.at{tag:Nat->Nat}{h:Hp}:{l:List Call} ->{cs:List AV} ->fk tag h l cs->∀(i:Nat)(c:Call),l[i]? = some c->∃av,(cs.drop (i*3)).take 3=[.str c.module,.str c.func,av]/\ul tag 4 h c.args av
 |[],_,_,i,c,hc=>by simp at hc
 | d:: l,_,⟨av,rest,h1,h2,h3⟩,i,c,hc=>by
  subst h1;cases i with
  |zero=>simp at hc;subst hc;exact⟨av,by simp,h2⟩
  |succ i=>
   obtain⟨av',g1,g2⟩:=h3.at i c (by simpa using hc);refine⟨av',?_,g2⟩;rw[show (i+1)*3=i*3+3 by omega];simpa using g1
def ep{v:AV}(h:bh v=true):cE 1 v=true/\aa v=[v]/\cM v=some 1:=by
 cases v with
 |any=>cases h
 |agg _=>cases h
 |tup _=>cases h
 |nilb _=>cases h
 |byt _ _=>cases h
 |it _=>cases h
 |_=>exact⟨rfl,rfl,rfl⟩
def mu(m:Ms):Int:=m.deeds.length+m.calls.length+m.fuel
def TQ(k:Int){α:Type}(x:X α):Prop:=∀m a s,0<=m.fuel->x m= .ok a s->mu s<=mu m+k/\s.fuel<=m.fuel/\0<=s.fuel/\s.frames=m.frames
def Bf{k:Int}{α:Type}{a:α}(hk:0<=k):TQ k (.ok a):=fun m b s h0 h=>by cases h;exact⟨by omega,PC _,h0,rfl⟩
def FM{k:Int}{α:Type}{e:Int}:TQ k (α:=α) (.er e):=fun m b s _ h=>by cases h
def Hv{j k:Int}{α β:Type}{x:X α}{f:α->X β}(hx:TQ j x)(hf:∀a,TQ k (f a)):TQ (j+k) (x.bind f):=by
 intro m b s h0 h;unfold X.bind at h;cases hr:x m with
 |er e t=>rw[hr]at h;cases h
 |ok a t=>
  rw[hr]at h;obtain⟨h1,h2,h3,h4⟩:=hx m a t h0 hr;obtain⟨g1,g2,g3,g4⟩:=hf a t b s h3 h;exact⟨by omega,by omega,g3,g4.trans h4⟩
def dC{k:Int}{α β:Type}{x:X α}{f:α->X β}(hx:TQ 0 x)(hf:∀a,TQ k (f a)):TQ k (x.bind f):=by
 have:=Hv hx hf
 rwa [Int.zero_add]at this
def Be{j k:Int}{α:Type}{x:X α}(h:TQ j x)(hk:j<=k):TQ k x:=fun m a s h0 e=>by
 obtain⟨h1,h2⟩:=h m a s h0 e;exact⟨by omega,h2⟩
def cr{k:Int}{α:Type}{c:Prop}[Decidable c]{x y:X α}(h1:TQ k x)(h2:TQ k y):TQ k (if c then x else y):=by
 split
 ·exact h1
 ·exact h2
def qv{r:X Val}(h:TQ 0 r):TQ 0 (boolX r):=dC h fun _=>cr (Bf (PC _)) FM
theorem vI{r:Exp->X Val}(h:∀e,TQ 0 (r e)):∀l,TQ 0 (listX r l)
 |[]=>Bf (PC _)
 |e:: l=>dC (h e) fun _=>dC (vI h l) fun _=>Bf (PC _)
def jN(p:List Mod)(r:Ev)(a:Int)(f:Fun)(l:List Val)(m:Ms):ff p r a f l m=if m.frames<60 then((r a (f.params.map (·.1)) l f.body).bind fun v=>.upd (fun m=>{ m with frames:=m.frames-1 }) (.ok v)) (iy p a f l m)else .er 6 m:=by
 unfold ff X.get;by_cases h:m.frames<60
 ·simp only[h,NS];rfl
 ·simp only[h,NK];rfl
def FL{p:List Mod}{r:Ev}{a:Int}{f:Fun}{l:List Val}(hr:∀o ns vs e,TQ 0 (r o ns vs e)):TQ 1 (ff p r a f l):=by
 intro m v s h0 h;rw[jN]at h;split at h
 ·unfold X.bind at h;cases hr':r a (f.params.map (·.1)) l f.body (iy p a f l m)with
  |er e t=>rw[hr']at h;cases h
  | ok b t=>
   rw[hr']at h;cases h;obtain⟨h1,h2,h3,h4⟩:=hr _ _ _ _ (iy p a f l m) v t h0 hr';have hm:mu (iy p a f l m)<=mu m+1:=by
    simp only[mu,iy];split
    ·simp;omega
    ·omega
   have h4':t.frames=m.frames+1:=h4;have h2':t.fuel<=m.fuel:=h2;simp only[mu]at h1 hm |-;exact⟨by omega,h2',h3,by omega⟩
 ·cases h
def Hw{p:List Mod}{r:Ev}(hr:∀o ns vs e,TQ 0 (r o ns vs e))(o:Int)(ns:List bk)(vs:List Val)(e:Exp):TQ 0 (j9 p r o ns vs e):=by
 have tick:∀y:X Val,TQ 1 y->TQ 0 (ug y):=fun y hy m a s h0 h=>by
  unfold ug X.get at h;by_cases hf:m.fuel<=0
  ·simp only[hf,NS]at h;cases h
  ·simp only[hf,NK]at h;obtain⟨h1,h2,h3,h4⟩:=hy { m with fuel:=m.fuel-1 } a s (by simp only;omega) h;simp only[mu]at h1 h2 |-;exact⟨by omega,by omega,h3,h4⟩
 have H:=fun e=>hr o ns vs e;have ok1:∀(α:Type)(a:α),TQ 1 (.ok a):=fun _ _=>Bf (by omega);have er1:∀(α:Type) e,TQ 1 (α:=α) (.er e):=fun _ _=>FM;have H1:=fun e=>Be (H e) (show (0:Int)<=1 by omega);refine tick _ ?_;refine cr (er1 _ _) (cr (ok1 _ _) (cr (cr (ok1 _ _) (er1 _ _)) (cr ?_ (cr ?_ (cr ?_ (cr ?_ (cr ?_ (cr ?_ (cr ?_ (cr ?_ (cr ?_ (cr ?_ ?_))))))))))))
 ·split
  ·exact ok1 _ _
  ·exact er1 _ _
 ·refine dC (H _) fun a=>dC (H _) fun b=>?_;unfold jK;exact cr (cr (ok1 _ _) (er1 _ _)) (cr (cr (ok1 _ _) (cr (ok1 _ _) (cr (ok1 _ _) (ok1 _ _)))) (er1 _ _))
 ·exact dC (qv (H _)) fun a=>cr (ok1 _ _) (dC (qv (H _)) fun b=>ok1 _ _)
 ·exact dC (qv (H _)) fun a=>ok1 _ _
 ·exact dC (qv (H _)) fun a=>cr (H1 _) (H1 _)
 ·exact dC (H _) fun v=>Be (hr _ _ _ _) (by omega)
 ·unfold gI;exact cr (cr (dC (vI H _) fun vs=>cr (ok1 _ _) (er1 _ _)) (er1 _ _)) (er1 _ _)
 ·refine dC (H _) fun v=>?_;split
  ·exact cr (ok1 _ _) (er1 _ _)
  ·exact er1 _ _
 ·unfold mb;simp only;split
  ·exact er1 _ _
  ·exact cr (cr (dC (vI H _) fun l=>FL hr) (er1 _ _)) (er1 _ _)
 ·unfold sJ;refine dC (H _) fun v=>cr (cr (fun m a s h0 h=>?_) (er1 _ _)) (er1 _ _);cases h;simp only[mu];exact⟨by simp;omega,PC _,h0,trivial⟩
 ·unfold sX;refine cr (er1 _ _) ?_;simp only;refine cr (er1 _ _) (cr (dC (H _) fun v m a s h0 h=>?_) fun m a s h0 h=>?_)
  ·cases h;exact⟨by simp only[mu];omega,PC _,h0,rfl⟩
  ·cases h;exact⟨by omega,PC _,h0,rfl⟩
theorem lY{p:List Mod}:∀(n:Nat)(o:Int)(ns:List bk)(vs:List Val)(e:Exp),TQ 0 (ba p n o ns vs e)
 |0,_,_,_,_=>FM
 |n+1,o,ns,vs,e=>Hw (fun o ns vs e=>lY n o ns vs e) o ns vs e
structure GoodM (p:List Mod) (m:Ms):Prop where
 right:uq m
 bud:mu m<=1000000
 fr:0<=m.frames/\m.frames<=60
 fuel:0<=m.fuel
 shape:∀(i:Nat)(x:Mod),p[i]? = some x->∃l,m.state[i]? = some l/\l.length=x.vars.length
def GoodM.eval{p:List Mod}{n:Nat}{o:Int}{ns:List bk}{vs:List Val}{e:Exp}{m s:Ms}{v:Val}(G:GoodM p m)(hs:kc ns vs)(h:ba p n o ns vs e m= .ok v s):GoodM p s/\Rv v/\s.fuel<=m.fuel:=by
 obtain⟨h1,h2,h3,h4⟩:=lY n o ns vs e m v s G.fuel h;obtain⟨g1,g2,g3⟩:=m0 (p:=p) n o ns vs e hs m G.right;rw[h]at g1 g2;refine⟨⟨g1,by have:=G.bud;omega,by rw[h4];exact G.fr,h3,fun i x hx=>?_⟩,g3 v s h,h2⟩;obtain⟨l,k1,k2⟩:=G.shape i x hx;have:(lI s)[i]? = (lI m)[i]?:=by rw[show lI s=lI m from g2]
 simp only[lI,Ou,k1,Oo]at this;cases hi:s.state[i]? with
 |none=>rw[hi]at this;cases this
 |some l'=>
  rw[hi]at this;simp only[Oo,NB]at this;exact⟨l',rfl,by omega⟩
def GoodM.bool{p:List Mod}{n:Nat}{o:Int}{ns:List bk}{vs:List Val}{e:Exp}{m s:Ms}{b:Bool}(G:GoodM p m)(hs:kc ns vs)(h:boolX (ba p n o ns vs e) m= .ok b s):GoodM p s/\s.fuel<=m.fuel:=by
 unfold boolX X.bind at h;cases hr:ba p n o ns vs e m with
 |er c t=>rw[hr]at h;cases h
 | ok v t=>
  rw[hr]at h;simp only at h;split at h
  ·cases h;exact⟨(G.eval hs hr).1,(G.eval hs hr).2.2⟩
  ·cases h
def sf{v:Val}(h:Rv v):v.names.length<=8:=by
 unfold Rv bU at h;split at h
 ·simp only[NG,Ol]at h;omega
 ·simp only[NG,Oa]at h;exact h.1.1.2
theorem AE:∀(d:Nat)(v:Val),bU d v=true->v.sz<=17*9 ^ d
 |0,v,h=>by simp[bU]at h
 | d + 1,v,h=>by
  have hp:1<=9 ^ d:=Nat.one_le_pow _ _ (by decide);obtain⟨k,n,ns,vs⟩:=v;unfold bU at h;simp only[Val.sz];split at h
  ·simp only[NG,Ol,Nr,Nq]at h;have h1:=h.1.1;have h2:vs=[]:=NV h.1.2;subst h2;simp only[bJ];rw[Nat.pow_succ];omega
  ·simp only[NG,Ol,Oc,Nr,Nq]at h;have h8:=Qk h.1.1.2;have hl:=h.1.1.1.2;have hv:=h.2;have key:∀l:List Val,(∀v∈l,bU d v=true)->bJ l<=l.length*(17*9 ^ d):=by
    intro l
    induction l with
    |nil=>intro _;simp[bJ]
    |cons v l ih=>
     intro h;have h1:=AE d v (h v Oq);have h2:=ih fun w hw=>h w (OC _ hw);simp only[bJ,Of];rw[Ow];omega
   have h3:=key vs hv;have h4:vs.length*(17*9 ^ d)<=8*(17*9 ^ d):=NY _ (by omega);rw[Nat.pow_succ];omega
def xW{v:Val}(h:Rv v):v.sz<=200000:=O0 (AE 4 v h) (by decide)
end Go.Av.Ap
namespace Go.Av.Ap
open Go Go.Av
def F5(l:List aG):Prop:=l.Pairwise fun a b=>m8 a b=true
def oW{l:List aG}(h:F5 l):l.Nodup:=h.imp fun{a b} hab e=>by
 subst e;rw[nL]at hab;cases hab
theorem ve:∀ {a b:List aG},F5 a->F5 b->(∀x,x∈a↔x∈b)->a=b
 |[],[],_,_,_=>rfl
 |[],y:: b,_,_,h=>absurd ((h y).2 Oq) OJ
 |x:: a,[],_,_,h=>absurd ((h x).1 Oq) OJ
 | x :: a,y:: b,ha,hb,h=>by
  obtain⟨a1,a2⟩:=O5.1 ha;obtain⟨b1,b2⟩:=O5.1 hb;have hxy:x=y:=by
   rcases NP.1 ((h x).1 Oq)with e|hx
   ·exact e
   ·rcases NP.1 ((h y).2 Oq)with e|hy
    ·exact e.symm
    ·have:=xz (a1 y hy)
     rw[b1 x hx]at this;cases this
  subst hxy;congr 1;refine ve a2 b2 fun z=>?_
  have:=h z
  simp only[NP]at this;constructor
  ·intro hz;rcases this.1 (.inr hz)with e|hz'
   ·subst e;have:=a1 z hz;rw[nL]at this;cases this
   ·exact hz'
  ·intro hz;rcases this.2 (.inr hz)with e|hz'
   ·subst e;have:=b1 z hz;rw[nL]at this;cases this
   ·exact hz'
def o8{l:List aG}(h:l.Nodup):F5 (cP l):=by
 have hn:(cP l).Nodup:=(cN l).nodup_iff.2 h;have hs:=fX l;refine List.Pairwise.imp (R:=fun a b=>rF a b=true/\a≠b) ?_ (hs.and hn);rintro a b ⟨h1,h2⟩;exact qm (by simpa [rF]using h1) (fun e=>h2 e.symm)
def kS:List aG->aG->List aG
 |[],r=>[r]
 |x:: l,r=>if m8 x r=true then x:: kS l r else if x=r then r:: l else r:: x:: l
theorem iW(r y:aG):∀l:List aG,y∈kS l r↔y=r\/y∈l
 |[]=>by simp[kS]
 | x:: l=>by
  simp only[kS];split
  ·simp only[NP,iW r y l];exact⟨fun h=>by rcases h with h|h|h;exact .inr (.inl h);exact .inl h;exact .inr (.inr h),fun h=>by rcases h with h|h|h;exact .inr (.inl h);exact .inl h;exact .inr (.inr h)⟩
  ·split
   ·rename_i e;subst e;simp
   ·simp
theorem nW(r:aG):∀ {l:List aG},F5 l->F5 (kS l r)
 |[],_=>QY _ _
 | x:: l,h=>by
  obtain⟨h1,h2⟩:=O5.1 h;simp only[kS];split
  ·rename_i hx;refine O5.2 ⟨fun y hy=>?_,nW r h2⟩;rcases (iW r y l).1 hy with rfl|hy
   ·exact hx
   ·exact h1 y hy
  ·split
   ·rename_i e;subst e;exact h
   ·rename_i hx hne;have hrx:=qm (by simpa using hx) hne;refine O5.2 ⟨fun y hy=>?_,h⟩;rcases NP.1 hy with rfl|hy
    ·exact hrx
    ·exact uT hrx (h1 y hy)
def stepW(p:List Mod)(f:aG)(o:List aG)(e:Exp):List aG:=if kM p f e=true then kS o (pW f e)else o
def gL(p:List Mod)(o:List aG):Prop:=F5 o/\∀x∈o,(cd p x).isSome=true
def gL.len{p:List Mod}{o:List aG}(h:gL p o):o.length<=(cW p).length:=by
 have:=dN (m:=(cW p).map (·.1)) (oW h.1) (fun x hx=>(lx p x).2 (h.2 x hx))
 simpa using this
def wd{p:List Mod}{f:aG}{e:Exp}(h:kM p f e=true):(cd p (pW f e)).isSome=true:=by
 unfold kM at h;cases hf:cd p (pW f e)with
 |none=>rw[hf]at h;simp at h
 |some g=>rfl
def gL.put{p:List Mod}{o:List aG}(h:gL p o){r:aG}(hr:(cd p r).isSome=true):gL p (kS o r):=⟨nW r h.1,fun x hx=>by
 rcases (iW r x o).1 hx with rfl|hx
 ·exact hr
 ·exact h.2 x hx⟩
def gL.step{p:List Mod}{f:aG}{o:List aG}(h:gL p o)(e:Exp):gL p (stepW p f o e):=by
 unfold stepW;split
 ·rename_i hc;exact h.put (wd hc)
 ·exact h
theorem gL.fold{p:List Mod}{f:aG}:∀(l:List Exp){o:List aG},gL p o->gL p (l.foldl (stepW p f) o)
 |[],_,h=>h
 |e:: l,_,h=>gL.fold l (h.step e)
theorem tP{p:List Mod}{f r:aG}:∀(l:List Exp)(o:List aG),r∈l.foldl (stepW p f) o↔(∃e∈l,kM p f e=true/\r=pW f e)\/r∈o
 |[],o=>by simp
 | e :: l,o=>by
  rw[OR,tP l];unfold stepW;by_cases hc:kM p f e=true
  ·rw[NE hc,iW];constructor
   ·rintro (⟨e',h1,h2⟩|rfl|h)
    ·exact .inl ⟨e',OC _ h1,h2⟩
    ·exact .inl ⟨e,Oq,hc,rfl⟩
    ·exact .inr h
   ·rintro (⟨e',h1,h2,h3⟩|h)
    ·rcases NP.1 h1 with rfl|h1
     ·exact .inr (.inl h3)
     ·exact .inl ⟨e',h1,h2,h3⟩
    ·exact .inr (.inr h)
  ·rw[if_neg hc];constructor
   ·rintro (⟨e',h1,h2⟩|h)
    ·exact .inl ⟨e',OC _ h1,h2⟩
    ·exact .inr h
   ·rintro (⟨e',h1,h2,h3⟩|h)
    ·rcases NP.1 h1 with rfl|h1
     ·exact absurd h2 hc
     ·exact .inl ⟨e',h1,h2,h3⟩
    ·exact .inr h
def tD(p:List Mod):gL p []:=⟨List.Pairwise.nil,fun x hx=>by cases hx⟩
def yk(p:List Mod)(f:aG):(fw (kL p f)).foldl (stepW p f) []=dm p f:=by
 refine ve (gL.fold _ (tD p)).1 (o8 (lr p f _ [] (by simp))) fun x=>?_;rw[tP,oQ];simp
end Go.Av.Ap
