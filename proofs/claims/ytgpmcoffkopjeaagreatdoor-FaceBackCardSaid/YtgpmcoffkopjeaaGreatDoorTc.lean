/- What the functions of the seat compute, part 3: the texts of the claim, one behind the other. Conditions: bounds, as each theorem names them. -/
import Derived.Test.YtgpmcoffkopjeaaGreatDoorTb
import Derived.Shelf.SlSortCmp.NoneTotal
import Derived.Test.YtgpmcoffkopjeaaGreatDoorRows
import Derived.Lib.LaidTab
import Derived.Stop.LaidErr
import Derived.Shelf.Vars
import Derived.ProofKit
import Derived.Deep.DeepHandedRow
import Derived.Deep.DeepWitnessRowRef
import Derived.Deep.DeepLaidRun
import Derived.Test.YtgpmcoffkopjeaaGreatDoorLd
set_option linter.defProp false
set_option linter.unusedSimpArgs false
set_option linter.unusedVariables false
namespace Go.Proofs.YtgpmcoffkopjeaaGreatDoor
open Go Go.Av Go.Av.Ap
set_option maxRecDepth 100000
end Go.Proofs.YtgpmcoffkopjeaaGreatDoor
namespace Go.Proofs.YtgpmcoffkopjeaaGreatDoor.F
open Go Go.Av Go.Av.Ap
set_option maxRecDepth 100000
def CG(e:AV)(es:List AV):bD (tL Tryz.f80.ntmps sI) (bZ 0) Tryz.f80 none [.sl (e:: es)]=ae (appH T 23 true (.sl []) (.sl (e:: es))) fun v=>ae (ah (some v)) M.pure:=by kernel_rfl
def CH:bD (tL Tryz.f80.ntmps sI) (bZ 0) Tryz.f80 none [.hn]=ae (ah (some (.sl []))) M.pure:=by kernel_rfl
def CI(l off:Nat):bD (tL Tryz.f80.ntmps sI) (bZ 0) Tryz.f80 none [.hs l off 0 1 false]=ae (appH T 23 true (.sl []) (.hs l off 0 1 false)) fun v=>ae (ah (some v)) M.pure:=by kernel_rfl
def yI(call:FuncId->List AV->M AV)(args:List AV)(h:Hp)(S:ao)(β:List a8)(w:World)(vs:List Value)(hr:cB T 23 call args h≠.fail)(hg:lq β h w)(hw:Wf S w)(hh:bS S β w h)(hv:aE S β args vs):
  Calls Tryz.prog 80 vs.toArray w (cF none S β h w (cB T 23 call args h)):=by
 have key:∀es,args=[.sl es]->Calls Tryz.prog 80 vs.toArray w (cF none S β h w (cB T 23 call args h)):=by
  rintro es rfl;exact (kz (cx:=tL Tryz.f80.ntmps sI) (E:=fun es h=>cB T 23 call [.sl es] h) tok (nP _ _) (sO _ _) Tryz.func80 rfl (fun h=>by rfl) (fun e es h=>by rw[CG];exact congrFun (uX _) h) (fun h=>by rw[CH];rfl) (fun l off h=>by rw[CI];rfl) hr hg hw hh hv).1
 unfold cB at hr;split at hr
 ·exact key _ rfl
 ·exact absurd rfl hr
def pr:(jG.map fun x=>Tryz.prog.funcs[x.1]?)=jG.map fun x=>some x.2.1:=by kernel_rfl
def iP:(jG.map fun x=>x.2.1.name== "runtime.NumGoroutine")=jG.map fun _=>false:=by kernel_rfl
def Cr{f k:Nat}{α:Type}{x y:α}{o:Option α}(h:(bif Nat.beq f k then some x else o)=some y):(f=k/\x=y)\/o=some y:=by
 cases hb:Nat.beq f k with
 |true=>rw[hb]at h;exact .inl ⟨DN hb,by simpa using h⟩
 |false=>rw[hb]at h;exact .inr h
def good:GoodPg Tryz.prog pg where
 tok:=tok
 funcs:=fun f fn a h=>by
  have:=jW jG f (fn,a) h
  exact⟨d9 pr _ this,d9 iP _ this⟩
 other:=by
  intro f E hE call hC args h S β w vs hr hg hw hh hv;have h0:other f=some E:=hE;unfold other at h0;rcases Cr h0 with⟨rfl,rfl⟩|h0
  ·exact⟨yI call args h S β w vs hr hg hw hh hv,by kernel_rfl⟩
  cases h0
 nw:=by
  intro f hf;have h0:(bif Nat.beq f 80 then true else false)=true:=hf;cases hb:Nat.beq f 80 with
  |true=>
   have:=DN hb
   subst this;exact⟨_,rfl,fun call args=>nO _ _ _ _⟩
  |false=>rw[hb]at h0;cases h0
def lc{α β:Type}{m:M α}{a:α}{h h':Hp}(e:m h= .ok a h')(f:α->M β):ae m f h=f a h':=by simp only[ae,e]
def AX(x:dV):(ab (a6 x)).length=3:=by simp
def qg(l:List dV):bm l= .sl (l.map a6):=by rw[bm,cN]
def vV{q:Nat}{l:List dV}{i:Nat}{h:Hp}(hi:i<l.length)(hq:h[q]? = some (rowOf a6 l)):cC T 55 (.hp q (0+i*3)) h= .ok (a6 l[i]) h:=by
 have hlen:=ie (f:=a6) AX l;rw[ud (T:=T) (t:=55) rfl rfl hq (show 0+i*3+3<=_ by omega)];show R.ok (AV.agg (((rowOf a6 l).drop (0+i*3)).take 3)) h=_;rw[Em,fA AX l i hi,dC,je]
def wF{q:Nat}{l:List dV}{i:Nat}{h:Hp}(hi:i<l.length)(hq:h[q]? = some (rowOf a6 l)):cQ T 35 (.hp q (0+i*3+1)) l[i].2.av h= .ok (.tup []) h:=by
 have hlen:=ie (f:=a6) AX l;refine q5 (T:=T) (t:=35) rfl hq (Ap.jr _) (show 0+i*3+1+2<=_ by omega) (by decide) ?_
 have:=fA AX l i hi
 have h2:((rowOf a6 l).drop (0+i*3+1)).take 2=(((rowOf a6 l).drop (i*3)).take 3).drop 1:=by
  rw[List.drop_take,FJ];congr 2;omega
 rw[cb];show ((rowOf a6 l).drop (0+i*3+1)).take 2=_;rw[h2,this,dC];rfl
theorem C6{q n i:Nat}(h:i<n):az T 23 (.hs q 0 n 3 true) (.int .i64 (i:Int))=some (.hp q (0+i*3)):=by
 have e:az T 23 (.hs q 0 n 3 true) (.int .i64 (i:Int))=if 0<=(i:Int)/\(i:Int)<(n:Int)then some (.hp q (0+(i:Int).toNat*3))else none:=rfl;rw[e,DR (by omega),Eb]
def zw(t:Ty)(hb:t.fields.length<=4611686018427387904)(hk:∀f∈t.fields,af pg 50 [f.2.av]=M.pure f.2.av)(q:Nat)(h:Hp)(hq:h[q]? = some (rowOf a6 t.fields))(x5 x6:AV):∀(n i:Nat),t.fields.length-i=n->i<=t.fields.length->
  ai (L50_0 (af pg) ai) [.hs q 0 t.fields.length 3 true,.int .i64 t.fields.length,.int .i64 i,.int .i64 t.kind,.hs q 0 t.fields.length 3 true,x5,x6] h= .ok (.agg [.int .i64 t.kind,.hs q 0 t.fields.length 3 true]) h:=by
 intro n
 induction n with
 |zero=>
  intro i hn hi;rw[FL50_0];have h1:¬((i:Int)<(t.fields.length:Int)):=by omega
  have h2:aG 2 [] (.agg [.int .i64 t.kind,.hs q 0 t.fields.length 3 true])=M.pure (.agg [.int .i64 t.kind,.hs q 0 t.fields.length 3 true]):=bv rfl;simp[L50_0,h1,h2,M.pure]
 |succ n ih=>
  intro i hn hi;have hlt:i<t.fields.length:=by omega
  have h1:(i:Int)<(t.fields.length:Int):=by omega
  have ih':=ih (i+1) (by omega) (by omega);have hw:IntKind.i64.wrap ((i:Int)+1)=((i+1:Nat):Int):=b5 (by omega);have hc:=hk t.fields[i] (Ed hlt);rw[<- ih'];generalize hcode:ai (L50_0 (af pg) ai) [.hs q 0 t.fields.length 3 true,.int .i64 t.fields.length,.int .i64 i,.int .i64 t.kind,.hs q 0 t.fields.length 3 true,x5,x6] h=code;rw[FL50_0]at hcode;simp -implicitDefEqProofs only[L50_0,aB,aT,bp,am,ar,h1,Ex,El,C6 hlt]at hcode;rw[lc (vV hlt hq)]at hcode;simp -implicitDefEqProofs only[lQ,ap,dC,FA55_1,am,List.drop_succ_cons,Fa,LD35,Ec,Es,Em,Nat.reduceAdd,DT,El,Fy,FI,er,hc,iK,FH55_1]at hcode;rw[show (i*3+1)=0+i*3+1 by omega]at hcode;rw[lc (wF hlt hq)]at hcode;simp -implicitDefEqProofs only[ga,am,hw]at hcode;rw[<- hcode]
theorem t50:∀(d:Nat)(t:Ty),xD d t->af pg 50 [t.av]=M.pure t.av
 |0,t,h=>h.elim
 | d+1,t,h=>by
  have hlen:t.fields.length<=100:=h.1;have ih:∀f∈t.fields,af pg 50 [f.2.av]=M.pure f.2.av:=fun f hf=>t50 d f.2 (h.2 f hf);have e0:af pg 80 [bm t.fields]=cB T 23 (af pg) [bm t.fields]:=cH hOther rfl _;have e1:=rA (T:=T) (t:=23) (f:=a6) (sz:=3) rfl rfl rfl rfl rfl (by decide) (by decide) (fun x=>jq x) (af pg) t.fields (show t.fields.length*48<=140737488355328 by omega) [];rw[<- qg,<- e0]at e1;rw[C50];funext hp;show aK _ hp=R.ok t.av hp;by_cases hf:t.fields=[]
  ·rw[DR hf]at e1;have e2:aG 2 [] (.agg [.int .i64 t.kind,.sl []])=M.pure (.agg [.int .i64 t.kind,.sl []]):=bv rfl;have key:S50 (af pg) ai (cl ax t.av) []= .ok (.agg [.int .i64 t.kind,.sl []]) []:=by
    simp only[S50,nN,jR,ap,cb,aB,aT];rw[lc e1];simp only[cK,aV,DJ,am,xU];rw[FL50_0];simp[L50_0,e2,M.pure]
   unfold aK;rw[key];have:(AV.agg [.int .i64 t.kind,.sl []])=t.av:=by rw[<- er,hf];rfl
   rw[this];simp only[R.ok.injEq,Gt];exact (Clean.frz (fun g=>nN g t) 6 [])
  ·rw[if_neg hf]at e1;have hq:([]++[rowOf a6 t.fields]:Hp)[0]? = some (rowOf a6 t.fields):=rfl;have key:S50 (af pg) ai (cl ax t.av) []= .ok (.agg [.int .i64 t.kind,.hs 0 0 t.fields.length 3 true]) ([]++[rowOf a6 t.fields]):=by
    simp only[S50,nN,jR,ap,cb,aB,aT];rw[lc e1];simp only[cK,aV,DJ,am,yK,Es];exact zw t (by omega) ih 0 _ hq _ _ t.fields.length 0 rfl (by omega)
   unfold aK;rw[key];have hfr:=tT (f:=a6) AX (fun x=>by rw[dC,je]) (fun x g=>zc g x) (by decide) hq 5;have:il 6 ([]++[rowOf a6 t.fields]) (.agg [.int .i64 t.kind,.hs 0 0 t.fields.length 3 true])=t.av:=by
    rw[<- er,qg,<- hfr];rfl
   show R.ok (il 6 _ _) hp=_;rw[this]
end Go.Proofs.YtgpmcoffkopjeaaGreatDoor.F
namespace Go.Proofs.YtgpmcoffkopjeaaGreatDoor
open Go Go.Av Go.Av.Ap
def Br(call:FuncId->List AV->M AV)(args:List AV)(h:Hp)(S:ao)(β:List a8)(w:World)(vs:List Value)(hr:lg call args h≠.fail)(hg:lq β h w)(hw:Wf S w)(hh:bS S β w h)(hv:aE S β args vs):
  Calls Tryz.prog 50 vs.toArray w (cF none S β h w (lg call args h)):=by
 unfold lg at hr |-;split at hr
 ·rename_i v;cases hc:BJ 5 v with
  |false=>rw[hc]at hr;exact absurd rfl hr
  |true=>
   obtain⟨t,rfl,ht⟩:=ra 5 v hc;have e:=congrFun (F.t50 5 t ht) h
   have:=(gK F.good F.hOther 50 [t.av] h S β w vs (by rw[e];simp[M.pure]) hg hw hh hv).1
   rw[e]at this;exact this
 ·exact absurd rfl hr
end Go.Proofs.YtgpmcoffkopjeaaGreatDoor
namespace Go.Proofs.YtgpmcoffkopjeaaGreatDoor.D
open Go Go.Av Go.Av.Ap
set_option maxRecDepth 100000
noncomputable def pg:Pg:={ T:=T,funcs:=nU jG,own:=own,other:=fun _=>none }
def hOther:ci pg:=fun f E h=>by cases h
def E95(call:FuncId->List AV->M AV)(fx:cd AV)(a0:AV):bD (pg.cx call Tryz.f95.ntmps uQ) fx Tryz.f95 (own 95) [a0]=S95 call fx a0:=by kernel_rfl
def C95(a0:AV):af pg 95 [a0]=aK (S95 (af pg) ai (cl ax a0)):=(ay hOther rfl rfl rfl _).trans (DL aK (E95 _ _ (cl ax a0)))
def E59(call:FuncId->List AV->M AV)(fx:cd AV)(a0 a1:AV):bD (pg.cx call Tryz.f59.ntmps uP) fx Tryz.f59 (own 59) [a0,a1]=S59 call fx a0 a1:=by kernel_rfl
def C59(a0 a1:AV):af pg 59 [a0,a1]=aK (S59 (af pg) ai (cl ax a0) (cl ax a1)):=(ay hOther rfl rfl rfl _).trans (DL aK (E59 _ _ (cl ax a0) (cl ax a1)))
def E58(call:FuncId->List AV->M AV)(fx:cd AV)(a0 a1:AV):bD (pg.cx call Tryz.f58.ntmps uO) fx Tryz.f58 (own 58) [a0,a1]=S58 call fx a0 a1:=by kernel_rfl
def C58(a0 a1:AV):af pg 58 [a0,a1]=aK (S58 (af pg) ai (cl ax a0) (cl ax a1)):=(ay hOther rfl rfl rfl _).trans (DL aK (E58 _ _ (cl ax a0) (cl ax a1)))
@[simp] theorem B5(t:Nat)(a b:bj):au T .gtr t (.str a) (.str b)=some (.bool !(aN a b||a== b)):=rfl
theorem t95(s:bj):af pg 95 [.str s]=M.pure (.bool false):=by
 rw[C95];have e:au T .neq 9 (.str s) (.str s)=some (.bool !(s== s)):=rfl;simp[S95,e]
def t59(a b:bj):af pg 59 [.str a,.str b]=M.pure (.int .i64 (tK a b)):=by
 rw[C59];unfold tK;cases h1:aN a b with
 |true=>simp[S59,t95,h1]
 | false=>
  by_cases h2:a=b
  ·subst h2;simp[S59,t95,fk]
  ·have h3:=fI a b h1 h2;have h4:(a== b)=false:=EZ.2 h2;simp[S59,t95,h1,h3,h2]
def t58(a b:bj)(x1 x2 x3 x4 y1 y2 y3 y4:AV):af pg 58 [.agg [.str a,x1,x2,x3,x4],.agg [.str b,y1,y2,y3,y4]]=M.pure (.int .i64 (tK a b)):=by
 rw[C58];have f0:∀cs,aa T 37 (.ip cs) 0=some (.ip (cs.drop 0)):=fun cs=>rfl;have l0:∀(s:bj)(cs:List AV),ak T 9 (.ip (.str s:: cs))=some (.str s):=fun s cs=>rfl;simp[S58,cl,dJ,ab,f0,l0,t59]
def good:@GoodPg ⟨True⟩ Tryz.prog pg:=by
 letI:Dr:=⟨True⟩
 exact⟨tok,qo,(fun f E h=>by cases h),(fun f h=>by cases h)⟩
end Go.Proofs.YtgpmcoffkopjeaaGreatDoor.D
namespace Go.Proofs.YtgpmcoffkopjeaaGreatDoor
open Go Go.Av Go.Av.Ap Go.RowKit Go.Sort
set_option maxRecDepth 1000000
def CP(keys:List bj)(n:Nat):SWO (ltOf (AW keys n)):=by
 have h:∀i j,ltOf (AW keys n) i j=aN keys[i % n]! keys[j % n]!:=fun i j=>by
  unfold ltOf AW tK;cases h1:aN keys[i % n]! keys[j % n]! with
  |true=>simp
  |false=>
   cases h2:aN keys[j % n]! keys[i % n]! <;> simp
 refine⟨fun x=>?_,fun x y z=>?_,fun x y z=>?_⟩
 ·rw[h,fk]
 ·rw[h,h,h];exact fJ _ _ _
 ·rw[h,h,h];intro h1 h2;cases h3:aN keys[x % n]! keys[z % n]! with
  |false=>rfl
  | true=>
   exfalso;by_cases e:keys[x % n]! = keys[y % n]!
   ·rw[e,h2]at h3;cases h3
   ·have:=fJ _ _ _ (fI _ _ h1 e) h3
    rw[this]at h2;cases h2
def tW{ev:Nat->List Value}{k:Nat}{w:World}(hg:GOKw w){blk off n:Nat}{d:Array Nat}{os:Array Obj}(hb:gN<=blk):GOKw (sortWorldK ev k w blk off n d os):=
 hg.mono fun b hlt=>mQ ev k off n d os (Ei hlt hg.lt) (by omega)
def vl:∀args w,(callFunc 58 args).run Tryz.prog w= .ok (.enter 58 args) w:=enters_of Tryz.func58 (by kernel_rfl) rfl
def A3(a b:bj)(u v:List Value)(hu:∃(x:ByteArray)(r:List Value),u= .string x:: r/\x.data.toList=a)(hv:∃(x:ByteArray)(r:List Value),v= .string x:: r/\x.data.toList=b)(lu:u.length=5)(lv:v.length=5)(W:World)(hg:GOKw W):
  Calls Tryz.prog 58 #[.agg u.toArray,.agg v.toArray] W fun e w'=>e= .returned (.int .i64 (tK a b))/\∃q os',w'=grow (W.drewN q) os':=by
 letI:Dr:=⟨True⟩
 have hs:∀(s:bj)(u:List Value),(∃(x:ByteArray)(r:List Value),u= .string x:: r/\x.data.toList=s)->u.length=5->VR (gC W) [] (.agg [.str s,.any,.any,.any,.any]) (.agg u.toArray):=by
  rintro s u ⟨x,r,rfl,hx⟩ hl;obtain⟨r1,r2,r3,r4,rfl⟩:∃r1 r2 r3 r4,r=[r1,r2,r3,r4]:=by
   match r,hl with
   |[r1,r2,r3,r4],_=>exact⟨r1,r2,r3,r4,rfl⟩
  simp only[VR];refine⟨_,rfl,?_⟩;simp only[aE,VR];exact⟨_,_,rfl,⟨x,rfl,hx⟩,_,_,rfl,trivial,_,_,rfl,trivial,_,_,rfl,trivial,_,_,rfl,trivial,rfl⟩
 have hv2:aE (gC W) [] [.agg [.str a,.any,.any,.any,.any],.agg [.str b,.any,.any,.any,.any]] [.agg u.toArray,.agg v.toArray]:=by
  simp only[aE];exact⟨_,_,rfl,hs a u hu lu,_,_,rfl,hs b v hv lv,rfl⟩
 have h:=(gK D.good D.hOther 58 [.agg [.str a,.any,.any,.any,.any],.agg [.str b,.any,.any,.any,.any]] [] (gC W) [] W _ (by rw[D.t58];simp[M.pure]) ⟨hg,fun b _ ho=>by obtain⟨l,_,_,h1,_⟩:=ho;simp at h1⟩ (fun _ _ _ h=>h) ⟨rfl,fun _=>.no,fun l cs hl=>by simp at hl⟩ hv2).1;rw[D.t58]at h;refine h.mono fun e w' hp=>?_;obtain⟨S',β',v,rfl,hv,L,_⟩:=hp;simp only[VR]at hv;subst hv;exact⟨rfl,L.grew trivial⟩
def Au:∀w,(isAgg 37).run Tryz.prog w= .ok true w:=fun w=>by kernel_rfl
def zM:∀w,(Go.sizeOf 37).run Tryz.prog w= .ok 5 w:=fun w=>by kernel_rfl
def qZ(w:World)(blk off cap:Nat)(keys:List bj)(ev:Nat->List Value)(_h0:0<keys.length)(hl:∀i,(ev i).length=5)(h1:∀i,∀v∈ev i,v.oneCell'=true)(hk:∀i,∃(x:ByteArray)(r:List Value),ev i= .string x:: r/\x.data.toList=keys[i % keys.length]!)(hg:GOKw w)(hb:gN<=blk)(hH:HoldsK ev 5 w blk off (Array.range keys.length))(hlt:blk<w.heap.size)(hsz:keys.length<4611686018427387904):
  Calls Tryz.prog 57 #[.slice (some ⟨blk,off,none⟩) keys.length cap,.func (.func 58) #[] #[]] w fun e w'=>e= .returned (.tuple #[])/\∃n os,w'=sortWorldK ev 5 w blk off n (gz keys).toArray os:=by
 have:=AnyQ.slices_SortFunc_eq Dn 5 Au zM ev hl h1 (AW keys keys.length) (CP keys keys.length) 58 #[] blk off cap (Array.range keys.length) w vl
  (fun m os dk _ x y=>A3 _ _ _ _ (hk x) (hk y) (hl x) (hl y) _ (tW hg hb)) hH hlt (by simpa using hsz)
 rw[Array.size_range]at this;refine this.mono ?_;rintro e w' ⟨he,n,os,hw⟩;refine⟨he,n,os,?_⟩;rw[hw];unfold gz;simp
def Bt(call:FuncId->List AV->M AV)(args:List AV)(h:Hp)(S:ao)(β:List a8)(w:World)(vs:List Value)(hr:fc 5 58 call args h≠.fail)(hg:lq β h w)(hw:Wf S w)(hh:bS S β w h)(hv:aE S β args vs):
  Calls Tryz.prog 57 vs.toArray w (cF none S β h w (fc 5 58 call args h)):=by
 have h0:=hr;unfold fc at hr;split at hr
 ·rename_i g';cases hb:Nat.beq g' 58 with
  |false=>rw[hb]at hr;exact absurd rfl hr
  |true=>
   have e:fc 5 58 call [.sl [],.fn (.func g') [] []] h= .ok (.tup []) h:=by simp only[fc,hb,DJ]
   rw[e];simp only[aE,VR,Es]at hv;obtain⟨_,_,rfl,⟨a,cap,rfl,_⟩,v,_,rfl,_,rfl⟩:=hv;refine (AnyF.slices_SortFunc_none Dn a cap v w).mono ?_;rintro e' w' ⟨rfl,rfl⟩;exact bN hw hh (Below.refl _ _) mA (by simp only[VR,aE];exact⟨[],rfl,rfl⟩)
 ·rename_i g';cases hb:Nat.beq g' 58 with
  |false=>rw[hb]at hr;exact absurd rfl hr
  |true=>
   have e:fc 5 58 call [.hn,.fn (.func g') [] []] h= .ok (.tup []) h:=by simp only[fc,hb,DJ]
   rw[e];simp only[aE,VR]at hv;obtain⟨_,_,rfl,rfl,v,_,rfl,_,rfl⟩:=hv;refine (AnyF.slices_SortFunc_none Dn none 0 v w).mono ?_;rintro e' w' ⟨rfl,rfl⟩;exact bN hw hh (Below.refl _ _) mA (by simp only[VR,aE];exact⟨[],rfl,rfl⟩)
 ·exact vI call qZ h0 hg hw hh hv
 ·exact absurd rfl hr
end Go.Proofs.YtgpmcoffkopjeaaGreatDoor
namespace Go.Proofs.YtgpmcoffkopjeaaGreatDoor
open Go Go.Av Go.RowKit
set_option maxRecDepth 100000
def Cs{α:Type}{f k:Nat}{x:α}{o:Option α}{y:α}(h:(bif Nat.beq f k then some x else o)=some y):(f=k/\x=y)\/o=some y:=by
 cases hb:Nat.beq f k with
 |true=>rw[hb]at h;exact .inl ⟨DN hb,by simpa using h⟩
 |false=>rw[hb]at h;exact .inr h
def uU{α:Type}{f k:Nat}{x y:α}{o:Option α}{P:Prop}(h1:f=k->x=y->P)(h2:o=some y->P)(h:(bif Nat.beq f k then some x else o)=some y):P:=(Cs h).elim (fun h=>h1 h.1 h.2) h2
def good:GoodPg Tryz.prog pg where
 tok:=tok
 funcs:=qo
 other:=by
  intro f E hE call hC args h S β w vs hr hg hw hh hv;have h0:other f=some E:=hE;unfold other at h0;revert h0
  repeat' refine uU ?_ ?_
  all_goals first
   |(intro h0;cases h0;done)
   |(rintro rfl rfl;exact absurd rfl hr)
   |(rintro rfl rfl;exact⟨Bp call args h S β w vs hr hg hw hh hv,by kernel_rfl⟩)
   |(rintro rfl rfl;exact⟨Bq call args h S β w vs hr hg hw hh hv,by kernel_rfl⟩)
   |(rintro rfl rfl;exact⟨Bt call args h S β w vs hr hg hw hh hv,by kernel_rfl⟩)
   |(rintro rfl rfl;exact⟨Bw call args h S β w vs hr hg hw hh hv,by kernel_rfl⟩)
   |(rintro rfl rfl;exact⟨Bu call args h S β w vs hr hg hw hh hv,by kernel_rfl⟩)
   |(rintro rfl rfl;exact⟨Bv call args h S β w vs hr hg hw hh hv,by kernel_rfl⟩)
   |(rintro rfl rfl;exact⟨yI call args h S β w vs hr hg hw hh hv,by kernel_rfl⟩)
   |(rintro rfl rfl;exact⟨Br call args h S β w vs hr hg hw hh hv,by kernel_rfl⟩)
   |(rintro rfl rfl;exact⟨zH call args h S β w vs hr hg hw hh hv,by kernel_rfl⟩)
   |(rintro rfl rfl;exact⟨zF call args h S β w vs hr hg hw hh hv,by kernel_rfl⟩)
   |(rintro rfl rfl;exact⟨zG call args h S β w vs hr hg hw hh hv,by kernel_rfl⟩)
 nw:=by
  intro f hf;have h0:(bif Nat.beq f 49 then true else false)=true:=hf;cases hb:Nat.beq f 49 with
  |true=>
   have:=DN hb
   subst this;exact⟨_,rfl,nO T 33⟩
  |false=>rw[hb]at h0;cases h0
end Go.Proofs.YtgpmcoffkopjeaaGreatDoor
namespace Go.Proofs.YtgpmcoffkopjeaaGreatDoor
open Go Go.Av Go.ChangeShapes Go.WideShapes Go.ChangeAt Go.RowKit
set_option maxRecDepth 1000000
def CM:ownKnob Tryz.prog.godebug=none:=by kernel_rfl
def star: "*" ++ "errors.errorString" = "*errors.errorString" :=by decide
def mM(u:TypeId)(h:Tryz.prog.typeName? 3 u=some "*errors.errorString"):u=190:=
 typeName_ptr_named (nm:= "errors.errorString") (by rw[star];kernel_rfl) (by kernel_rfl) (by decide) u (by rw[star];exact h)
def zo{W:World}(hL:laidMetH Tryz.prog Rows.faceBackRow.laid W)(hS:W.ShapedOpen Tryz.prog):GOKw W:=by
 have h0:laidMet Tryz.prog Rows.faceBackRow.laid W:=hL;have h1:=h0.tail;have h2:=h1.tail;have h3:=h2.tail;have h4:=h3.tail;have hp:=Lib.tabIs_of_head (k:=.u64) (zs:=Lib.pow10Tab) (g:=1) (t:=179) (e:=142) (n:=20) (by kernel_rfl) (by kernel_rfl) (by kernel_rfl) (by kernel_rfl) (by kernel_rfl) (by kernel_rfl) h2;obtain⟨a0,s0,v0,_⟩:=laid_sentinel (g:=3) (ti:=70) (tp:=190) (te:=192) (ts:=9) h3 (by kernel_rfl) (by kernel_rfl) Tryz.underlying70 mM Tryz.underlying190 Tryz.underlying192 rfl rfl Tryz.underlying9 (by kernel_rfl) (by kernel_rfl);obtain⟨a1,s1,v1,_⟩:=laid_sentinel (g:=2) (ti:=70) (tp:=190) (te:=192) (ts:=9) h4 (by kernel_rfl) (by kernel_rfl) Tryz.underlying70 mM Tryz.underlying190 Tryz.underlying192 rfl rfl Tryz.underlying9 (by kernel_rfl) (by kernel_rfl);have hvar:∀ {name:String} {g:Nat} {cs:Array Value},Tryz.prog.globalNamed name=some g->W.var? Tryz.prog name=some cs->∃t fr,W.heap[g]? = some (.cells cs t fr):=by
  intro name g cs hn hv;unfold World.var? at hv;rw[hn]at hv;simp only[Fx]at hv;split at hv
  ·rename_i c t fr hh;simp only[DI]at hv;subst hv;exact⟨t,fr,hh⟩
  ·cases hv
 have hcell:∀ {g:Nat} {v:Value},(∃t fr,W.heap[g]? = some (.cells #[v] t fr))->W.cell? ⟨g,0,none⟩=some v:=by
  rintro g v ⟨t,fr,hh⟩;simp[World.cell?,hh]
 refine⟨?_,hvar (by kernel_rfl) hp,⟨_,_,hcell (hvar (by kernel_rfl) v1)⟩,⟨_,_,hcell (hvar (by kernel_rfl) v0)⟩⟩;exact cell_of_shapedOpen_int (zero:=#[.int .i64 0]) (t:=3) hS (FD (by kernel_rfl)) (by kernel_rfl) rfl (by kernel_rfl) (by kernel_rfl) Tryz.underlying3
mutual
def iW:DataW Unit->List Value
 |.lit (.bool b)=>[.bool b]
 |.lit (.int k n)=>[.int k n]
 |.lit (.string s)=>[.string ⟨s.toArray⟩]
 |.agg ps=>vf ps
 |_=>[]
def vf:List (DataW Unit)->List Value
 |[]=>[]
 |d:: ds=>iW d++vf ds
end
abbrev CQ:ByteArray:={ data:=#[105,110,118,97,108,105,100,32,115,121,110,116,97,120] }
abbrev CO:ByteArray:={ data:=#[118,97,108,117,101,32,111,117,116,32,111,102,32,114,97,110,103,101] }
noncomputable def low:Nat:=(World.holding Tryz.prog default ⟨#[],#[],[]⟩).heap.size
noncomputable def wL:List (Option (Array Value)):=[none,some (iW Rows.laid_internal_strconv_uint64pow10).toArray,some #[.iface 190 (.pointer (some ⟨low,0,none⟩))],some #[.iface 190 (.pointer (some ⟨low+1,0,none⟩))],
 some (iW Rows.laid_math_bits_deBruijn32tab).toArray,some (iW Rows.laid_math_bits_deBruijn64tab).toArray]
def pe:List Obj->List (Option (Array Value))->List Obj
 |.cells _ t fr:: os,some c:: cs=>.cells c t fr:: pe os cs
 |o:: os,_:: cs=>o:: pe os cs
 |os,[]=>os
 |[],_=>[]
noncomputable def j9(os:Os):World:=
 let w0:=World.holding Tryz.prog os ⟨#[.cells #[.string CQ] 192,.cells #[.string CO] 192],#[],[]⟩
 { w0 with heap:=(pe w0.heap.toList wL).toArray }
def vQ(os:Os)(args:Array Value):laidMet Tryz.prog Rows.faceBackRow.laid ((j9 os).forCall (fun _ _=>0) ⟨#[],args,[]⟩).memory:=
 laidMet_of_run3 8 (by kernel_rfl) (by kernel_rfl) (by kernel_rfl)
end Go.Proofs.YtgpmcoffkopjeaaGreatDoor
namespace Go.Proofs.YtgpmcoffkopjeaaGreatDoor
open Go Go.Av Go.Av.Ap Go.RowKit
set_option maxRecDepth 1000000
section
variable {H:Type} {enc:TypeId×Value->H} {W:World}
theorem mK:reachBytes=140737488351232:=rfl
theorem Dz{k:Int}{fs:List dV}(h2:fs.length<=140737488355328)(h3:∀v∈fs,v.2.Lim):(Ty.mk k fs).Lim:=fun j=>match j with
 |0=>trivial
 |j+1=>⟨h2,fun x hx=>h3 x hx j⟩
theorem sc{N:Nat}(h:Rd enc Tryz.prog W N 35 (fun v:Ty=>v.cells) Ty.Lim):Rd enc Tryz.prog W (N+1) 23 (fun l:List dV=>[bm l]) (fun l=>l.length<=140737488355328/\∀v∈l,v.2.Lim):=
 (mJ ((ib Tryz.underlying55 (by kernel_rfl) (cT (pi Tryz.underlying9) rfl (by kernel_rfl:_=1) (cT h rfl (by kernel_rfl:_=2) jx))).map (fun x=>((x.1,x.2.1):dV)) (cells':=fun f=>ab (a6 f)) (Ok':=fun f=>f.2.Lim) (fun x=>by simp[Ty.cells_eq]) (fun x h=>h.2.1))
  Tryz.underlying23 (by kernel_rfl:_=3) (by decide) (by kernel_rfl:_=48) (ev:=a6) (jT fun v=>by rw[dL];rfl)).map id (fun l=>by simp[bm,cN]) (fun l h=>⟨by have:=h.1;rw[mK]at this;simp only[id];omega,h.2⟩)
theorem wj:∀N,Rd enc Tryz.prog W N 35 (fun v:Ty=>v.cells) Ty.Lim
 |0=>.zero
 | N+1=>(ib Tryz.underlying35 (by kernel_rfl) (cT (wg Tryz.underlying3) rfl (by kernel_rfl:_=1) (cT ((sc (wj N)).le (Nat.le_succ N)) rfl (by kernel_rfl:_=1) jx))).map (fun x=>Ty.mk x.1 x.2.1)
   (fun x=>by simp[Ty.cells_eq,Ty.kind,Ty.fields]) (fun x h=>Dz h.2.1.1 h.2.1.2)
theorem zK(N:Nat):Rd enc Tryz.prog W N 33 (fun l:List Ty=>[iR l]) (fun l=>l.length<=140737488355328/\∀v∈l,v.Lim):=
 (mJ (wj N) Tryz.underlying33 (by kernel_rfl:_=2) (by decide) (by kernel_rfl:_=32) (ev:=Ty.av) (jT fun v=>rfl)).map id (fun l=>by simp[iR]) (fun l h=>⟨by have:=h.1;rw[mK]at this;simp only[id];omega,h.2⟩)
end
end Go.Proofs.YtgpmcoffkopjeaaGreatDoor
namespace Go.Proofs.YtgpmcoffkopjeaaGreatDoor
open Go Go.Av Go.Av.Ap Go.RowKit
set_option maxRecDepth 1000000
section
variable {H:Type} {enc:TypeId×Value->H} {W:World}
theorem xN(N:Nat):Rd enc Tryz.prog W (N+1) 37 (fun s:Sig=>ab s.av) (fun s=>s.Lim/\-9223372036854775808<=s.effects/\s.effects<=9223372036854775807):=
 (ib Tryz.underlying37 (by kernel_rfl) (cT (pi Tryz.underlying9) rfl (by kernel_rfl:_=1) (cT (zK N) rfl (by kernel_rfl:_=1) (cT (wj N) rfl (by kernel_rfl:_=2) (cT (wg Tryz.underlying3) rfl (by kernel_rfl:_=1) jx))))).map
  (fun x=>(⟨x.1,x.2.1,x.2.2.1,x.2.2.2.1⟩:Sig)) (fun x=>by simp[Ty.cells_eq]) (fun x h=>⟨⟨h.2.1.1,h.2.1.2,h.2.2.1⟩,(bounds_i64 h.2.2.2.1).1,(bounds_i64 h.2.2.2.1).2⟩)
theorem wi(N:Nat):Rd enc Tryz.prog W N 30 (fun l:List Sig=>[sigs l]) (fun l=>l.length<=140737488355328/\∀v∈l,v.Lim/\-9223372036854775808<=v.effects/\v.effects<=9223372036854775807):=
 ((mJ (xN N) Tryz.underlying30 (by kernel_rfl:_=5) (by decide) (by kernel_rfl:_=80) (ev:=Sig.av) (jT fun v=>rfl)).map id (fun l=>by simp[sigs]) (fun l h=>⟨by have:=h.1;rw[mK]at this;simp only[id];omega,h.2⟩)).le (Nat.le_succ N)
theorem we(N:Nat):Rd enc Tryz.prog W (N+1) 32 (fun f:Face=>ab f.av) (fun f=>f.Lim/\∀s∈f.funcs,-9223372036854775808<=s.effects/\s.effects<=9223372036854775807):=
 (ib Tryz.underlying32 (by kernel_rfl) (cT (pi Tryz.underlying9) rfl (by kernel_rfl:_=1) (cT (wi N) rfl (by kernel_rfl:_=1) jx))).map
  (fun x=>(⟨x.1,x.2.1⟩:Face)) (fun x=>by simp) (fun x h=>⟨⟨h.2.1.1,fun s hs=>(h.2.1.2 s hs).1⟩,fun s hs=>(h.2.1.2 s hs).2⟩)
end
end Go.Proofs.YtgpmcoffkopjeaaGreatDoor
namespace Go.Proofs.YtgpmcoffkopjeaaGreatDoor
open Go Go.Av Go.Av.Ap
set_option maxRecDepth 100000
@[simp] theorem AP(t:Nat)(a b:Int):au T .geq t (.int .u8 a) (.int .u8 b)=some (.bool (decide (b<=a))):=rfl
@[simp] theorem AQ(t:Nat)(a b:Int):au T .leq t (.int .u8 a) (.int .u8 b)=some (.bool (decide (a<=b))):=rfl
@[simp] theorem B6(t:Nat)(a b:bj):au T .leq t (.str a) (.str b)=some (.bool (aN a b||a== b)):=rfl
def xC(f:AV)(F:dV->Bool)(l:List dV)(hb:l.length<=4611686018427387904)(hf:∀x∈l,dH (af pg) f [a6 x]=M.pure (.bool (F x))):∀(n:Nat)(i:Int),l.length-i.toNat=n->0<=i->i<=l.length->
  ai (L155_0 (af pg) ai) [bm l,f,.int .i64 l.length,.int .i64 i]=M.pure (.int .i64 (fe F (l.drop i.toNat) i)):=by
 intro n
 induction n with
 |zero=>
  intro i hn hi hl;rw[FL155_0];simp only[L155_0];have h1:¬(i<(l.length:Int)):=by omega
  have h2:l.drop i.toNat=[]:=ET (by omega);simp[h1,h2,fe]
 |succ n ih=>
  intro i hn hi hl;have h1:i<(l.length:Int):=by omega
  have hlt:i.toNat<l.length:=by omega
  have h2:fe F (l.drop i.toNat) i=if F l[i.toNat]=true then i else fe F (l.drop (i.toNat+1)) (i+1):=by rw[EN hlt];rfl
  have h3:=hf l[i.toNat] (Ed hlt);have h4:=ih (i+1) (by omega) (by omega) (by omega);rw[show (i+1).toNat=i.toNat+1 by omega]at h4;rw[FL155_0];simp only[L155_0];simp (disch:=omega) [h1,eV,tj,h3,h2];cases F l[i.toNat]
  ·simpa using h4
  ·simp
def t155(f:AV)(F:dV->Bool)(l:List dV)(hb:l.length<=4611686018427387904)(hc:∀g,cl g f=f)(hf:∀x∈l,dH (af pg) f [a6 x]=M.pure (.bool (F x))):af pg 155 [bm l,f]=M.pure (.int .i64 (fe F l 0)):=by
 rw[C155];simp[S155,hc,xC f F l hb hf l.length 0 rfl (by omega) (by omega)]
def t136(f:AV)(F:dV->Bool)(l:List dV)(hb:l.length<=4611686018427387904)(hc:∀g,cl g f=f)(hf:∀x∈l,dH (af pg) f [a6 x]=M.pure (.bool (F x))):af pg 136 [bm l,f]=M.pure (.bool (l.any F)):=by
 rw[C136];simp[S136,hc,t155 f F l hb hc hf,od]
def xB(f:AV)(F:Ty->Bool)(l:List Ty)(hb:l.length<=4611686018427387904)(hf:∀x∈l,dH (af pg) f [Ty.av x]=M.pure (.bool (F x))):∀(n:Nat)(i:Int),l.length-i.toNat=n->0<=i->i<=l.length->
  ai (L119_0 (af pg) ai) [iR l,f,.int .i64 l.length,.int .i64 i]=M.pure (.int .i64 (fe F (l.drop i.toNat) i)):=by
 intro n
 induction n with
 |zero=>
  intro i hn hi hl;rw[FL119_0];simp only[L119_0];have h1:¬(i<(l.length:Int)):=by omega
  have h2:l.drop i.toNat=[]:=ET (by omega);simp[h1,h2,fe]
 |succ n ih=>
  intro i hn hi hl;have h1:i<(l.length:Int):=by omega
  have hlt:i.toNat<l.length:=by omega
  have h2:fe F (l.drop i.toNat) i=if F l[i.toNat]=true then i else fe F (l.drop (i.toNat+1)) (i+1):=by rw[EN hlt];rfl
  have h3:=hf l[i.toNat] (Ed hlt);have h4:=ih (i+1) (by omega) (by omega) (by omega);rw[show (i+1).toNat=i.toNat+1 by omega]at h4;rw[FL119_0];simp only[L119_0];simp (disch:=omega) [h1,eV,tk,h3,h2];cases F l[i.toNat]
  ·simpa using h4
  ·simp
def t119(f:AV)(F:Ty->Bool)(l:List Ty)(hb:l.length<=4611686018427387904)(hc:∀g,cl g f=f)(hf:∀x∈l,dH (af pg) f [Ty.av x]=M.pure (.bool (F x))):af pg 119 [iR l,f]=M.pure (.int .i64 (fe F l 0)):=by
 rw[C119];simp[S119,hc,xB f F l hb hf l.length 0 rfl (by omega) (by omega)]
def t84(f:AV)(F:Ty->Bool)(l:List Ty)(hb:l.length<=4611686018427387904)(hc:∀g,cl g f=f)(hf:∀x∈l,dH (af pg) f [Ty.av x]=M.pure (.bool (F x))):af pg 84 [iR l,f]=M.pure (.bool (l.any F)):=by
 rw[C84];simp[S84,hc,t119 f F l hb hc hf,od]
def t113(b:UInt8):af pg 113 [.int .u8 b.toNat]=M.pure (.bool (ll b)):=by
 rw[C113];have e:decide ((b.toNat:Int)<=122)=decide (b.toNat<=122):=F5.2 (by omega);have e2:decide (97<=(b.toNat:Int))=decide (97<=b.toNat):=F5.2 (by omega);simp[S113,ll,e,e2]
def t116(b:UInt8):af pg 116 [.int .u8 b.toNat]=M.pure (.bool (rF b)):=by
 rw[C116];have e:decide ((b.toNat:Int)<=57)=decide (b.toNat<=57):=F5.2 (by omega);have e2:decide (48<=(b.toNat:Int))=decide (48<=b.toNat):=F5.2 (by omega);simp[S116,rF,e,e2]
def t115(b:UInt8):af pg 115 [.int .u8 b.toNat]=M.pure (.bool (lJ b)):=by
 rw[C115];simp[S115,t113,t116,lJ]
theorem yE{s:bj}{i:Nat}(h:i<s.length):d8 T 9 (.str s) (.int .i64 (i:Int))=some (.int .u8 (s[i].toNat:Int)):=by
 have e1:d8 T 9 (.str s) (.int .i64 (i:Int))=(if(i:Int)<0 then none else s[(i:Int).toNat]?.map fun b=>.int .u8 b.toNat):=rfl;rw[e1,if_neg (by omega),Eb,D5 h];rfl
def xA(F:UInt8->Bool)(f:AV)(s:bj)(hb:s.length<=4611686018427387904)(hf:∀b:UInt8,dH (af pg) f [.int .u8 b.toNat]=M.pure (.bool (F b))):∀(n i:Nat),s.length-i=n->i<=s.length->
  ai (L114_0 (af pg) ai) [.str s,f,.int .i64 i]=M.pure (.int .i64 ((i+((s.drop i).takeWhile F).length:Nat):Int)):=by
 intro n
 induction n with
 |zero=>
  intro i hn hi;rw[FL114_0];simp only[L114_0];have h1:¬((i:Int)<(s.length:Int)):=by omega
  have h2:s.drop i=[]:=ET (by omega);simp[h1,h2]
 | succ n ih=>
  intro i hn hi;have hlt:i<s.length:=by omega
  have h1:(i:Int)<(s.length:Int):=by omega
  have h2:s.drop i=s[i]:: s.drop (i+1):=EN hlt;have h4:=ih (i+1) (by omega) (by omega);have hw:IntKind.i64.wrap ((i:Int)+1)=((i+1:Nat):Int):=b5 (by omega);rw[FL114_0];simp only[L114_0,aB,aT,Cc,am,bp,h1,Ex,ba,yE hlt,hf,ap,aW,ar,ga,hw,h4,h2,List.takeWhile_cons];cases F s[i]
  ·simp
  ·rw[DR rfl,DR rfl];congr 3;simp;omega
def t81(s:bj):af pg 81 [.str s]=M.pure (.bool (kW s)):=by
 rw[C81];by_cases hs:s=[]
 ·subst hs;simp[S81,kW]
 ·have hs':(s== [])=false:=EZ.2 hs;have hpos:0<s.length:=EY.2 hs;have h0:=yE (s:=s) (i:=0) hpos;have hd:s[0]=s.headD 0:=by cases s with|nil=>exact absurd rfl hs|cons c s=>rfl
  rw[hd]at h0;simp at h0;by_cases hl:s.length<=20
  ·have h1:=xA lJ (.fn (.func 115) [] []) s (by omega) (fun b=>t115 b) s.length 0 (by simp) (by simp);have hsp:af pg 114 [.str s,.fn (.func 115) [] []]=M.pure (.int .i64 (((s.takeWhile lJ).length:Nat):Int)):=by
    rw[C114];simp only[S114,cl,dJ];rw[show (AV.int .i64 0)=AV.int .i64 ((0:Nat):Int)from rfl,h1];simp
   have e1:decide (20<(s.length:Int))=false:=by rw[Eu];omega
   have e3:decide (20<s.length)=false:=by rw[Eu];omega
   have e4:decide (s.length<=20)=true:=by simpa using hl
   simp[S81,hs',h0,t113,hsp,e1,e3,e4,kW]
  ·have e1:decide (20<(s.length:Int))=true:=by rw[DU];omega
   have e3:decide (20<s.length)=true:=by rw[DU];omega
   have e4:decide (s.length<=20)=false:=by simpa using hl
   simp[S81,hs',h0,t113,e1,e3,e4,kW]
def t82(s:bj):af pg 82 [.str ic,.str s]=M.pure (.bool (Lib.contains ic s)):=by
 rw[cH hOther (E:=fL) rfl];rfl
theorem tg(t:Nat)(a b:bj):au T .add t (.str a) (.str b)=if a.length+b.length<=4611686018427387904 then some (.str (a++b))else none:=rfl
def t52(s:bj):af pg 52 [.str s]=M.pure (.bool (dN s)):=by
 rw[C52];have h1:=t81 s;unfold dN;cases hw:kW s with
 |false=>
  rw[hw]at h1;simp[S52,h1]
 |true=>
  have hl:=oG hw;rw[hw]at h1;have h2:=t82 ([32]++s++[32]);unfold ic at h2;have e1:au T .add 9 (.str [32]) (.str s)=some (.str ([32]++s)):=by rw[tg,DR (by simp;omega)]
  have e2:au T .add 9 (.str ([32]++s)) (.str [32])=some (.str ([32]++s++[32])):=by rw[tg,DR (by simp;omega)]
  simp only[S52,zg,h1,ap,ba,e1,am,e2,h2,fB,aB,aW,fP,Fq];rfl
def xw{t:Ty}(h:t.Lim)(k:Nat)(hk:k<t.fields.length):(t.fields[k]!).2.Lim:=by
 rw[EB t.fields k hk];exact h.kid (Ed hk)
theorem t118:∀(d:Nat),d<=4->∀(t:Ty),t.Lim->af pg 118 [t.av,.int .i64 d]=M.pure (.bool (bP d t))
 |0,_,t,_=>by
  rw[C118];simp[S118,bP]
 | d + 1,hd,t,ht=>by
  have ih:=t118 d (by omega);have hlen:=ht.len;have hd1:IntKind.i64.wrap ((((d+1:Nat)):Int)-1)=(d:Int):=kj (by omega);have hloop:=lj (F:=L118_0 (af pg) ai) (FL118_0 (af pg)) (fun k=>[.int .i64 ((d+1:Nat):Int),.ip (ab t.av),bm t.fields,.int .i64 t.fields.length,.int .i64 k]) t.fields.length
   (fun k=>(dN (t.fields[k]!).1&&bP d (t.fields[k]!).2)&&(decide (k=0)||fC (t.fields[k-1]!).1 (t.fields[k]!).1))
   (by simp[L118_0]) (fun k hk=>by
    have h1:(k:Int)<(t.fields.length:Int):=by omega
    have hix:=tj (l:=t.fields) (n:=(k:Int)) (by omega) h1;rw[Eb]at hix;have hm:t.fields[k]! ∈t.fields:=by rw[EB t.fields k hk];exact Ed hk
    have h2:=t52 (t.fields[k]!).1;have h3:=ih (t.fields[k]!).2 (xw ht k hk);have hw:IntKind.i64.wrap ((k:Int)+1)=(k:Int)+1:=by rw[b5 (by omega)];simp
    have hd0:IntKind.i64.wrap (d:Int)=(d:Int):=wM (by omega);generalize t.fields[k]! = f at hix h2 h3 hm |-;rcases EA k with hk0|hk0
    ·subst hk0;have hix0:az T 23 (bm t.fields) (.int .i64 0)=some (.ip (ab (a6 f))):=hix;have hw0:IntKind.i64.wrap 1=1:=rfl;simp[L118_0,hix0,h2,h3,hw0,hd0,hk];cases dN f.1<;>cases bP d f.2<;>simp
    ·have hp:IntKind.i64.wrap ((k:Int)-1)=((k-1:Nat):Int):=by
      rw[eV (by omega) (by omega)];omega
     have h4:((k-1:Nat):Int)<(t.fields.length:Int):=by omega
     have hix2:=tj (l:=t.fields) (n:=((k-1:Nat):Int)) (by omega) h4;rw[Eb]at hix2;generalize t.fields[k-1]! = g at hix2 |-;have hk1:¬k=0:=by omega
     simp[L118_0,h1,hix,h2,h3,hw,hd0,hp,hix2,hk0,hk1,hk];cases dN f.1<;>simp;cases h5:aN f.1 g.1<;>cases bP d f.2<;>by_cases h6:f.1=g.1<;>simp[fC,h5,h6]) 0 (ER _)
  have hall:((List.range' 0 t.fields.length).all fun k=>(dN (t.fields[k]!).1&&bP d (t.fields[k]!).2)&&(decide (k=0)||fC (t.fields[k-1]!).1 (t.fields[k]!).1))=(t.fields.all (fun f=>dN f.1&&bP d f.2)&&iA (fun a b=>fC a.1 b.1) t.fields):=
   sG (fun f:dV=>dN f.1&&bP d f.2) (fun a b=>fC a.1 b.1) t.fields
  rw[Ge,hall]at hloop;rw[C118];have h0:¬((d:Int)+1=0):=by omega
  have hl2:ai (L118_0 (af pg) ai) [.int .i64 ((d:Int)+1),.ip [.int .i64 t.kind,bm t.fields],bm t.fields,.int .i64 t.fields.length,.int .i64 0]=M.pure (.bool (t.fields.all (fun f=>dN f.1&&bP d f.2)&&iA (fun a b=>fC a.1 b.1) t.fields)):=by
   simpa using hloop
  have hR:bP (d+1) t=if((t.kind<0\/3<=t.kind)\/8<(t.fields.length:Int))\/¬t.kind=2/\0<t.fields.length then false else(t.fields.all (fun f=>dN f.1&&bP d f.2)&&iA (fun a b=>fC a.1 b.1) t.fields):=by
   rw[dh];generalize (t.fields.all (fun f=>dN f.1&&bP d f.2)&&iA (fun a b=>fC a.1 b.1) t.fields)=q;generalize t.fields.length=n;generalize t.kind=k;split
   ·rename_i hc;cases q
    ·simp
    ·simp only[GE,E3,Eu,Fv,EZ];rcases hc with((h|h)|h)|h
     ·exact .inl (.inl (.inl (by omega)))
     ·exact .inl (.inl (.inr (by omega)))
     ·exact .inl (.inr (by omega))
     ·exact .inr ⟨h.1,by omega⟩
   ·rename_i hc;have e1:decide (0<=k)=true:=by rw[DU];omega
    have e2:decide (k<3)=true:=by rw[DU];omega
    have e3:decide (n<=8)=true:=by rw[DU];omega
    have e4:(k== 2||n== 0)=true:=by
     rw[Ey,E0,E0];omega
    rw[e1,e2,e3,e4];simp
  rw[hR];simp[S118,h0,hl2]
def t83(t:Ty)(ht:t.Lim):af pg 83 [t.av]=M.pure (.bool (ec t)):=by
 rw[C83];have:af pg 118 [t.av,.int .i64 4]=M.pure (.bool (bP 4 t)):=t118 4 (by omega) t ht;simp[S83,this]
def t101(t:Ty)(ht:t.Lim):af pg 101 [t.av]=M.pure (.bool (ec t)):=by
 rw[C101];simp[S101,t83 t ht]
theorem kI:(l:List dV)->dZ (dy l)=some (l.map fun f=>(f.1,f.2.kind,dy f.2.fields))
 |[]=>rfl
 |f:: l=>by simp[dy,dZ,kI l,dL,qf,bm]
theorem oi{α β:Type}(g:α->β)(p:β->Bool):(l:List α)->cX p (l.map g)=(cX (fun x=>p (g x)) l).map g
 |[]=>rfl
 |x:: l=>by
  simp only[Ev,cX,oi g p l];cases cX (fun x=>p (g x)) l with
  |some y=>rfl
  |none=>cases p (g x)<;>rfl
def ty0:Ty:=.mk 0 []
def t138(l:List dV)(hl:l.length<=1000000000)(s:bj):af pg 138 [bm l,.str s]=M.pure (.tup [((cX (fun f=>f.1== s) l).map (·.2)).getD ty0 |>.av,.bool (cX (fun f=>f.1== s) l).isSome]):=by
 rw[cH hOther (E:=hM) rfl];unfold hM bm;simp only[kI,EX,hl,Ex,DJ,r6,oi];cases cX (fun f:dV=>f.1== s) l with
 |none=>rfl
 |some f=>simp[ah,M.pure,Ty.av,Ty.cells_eq,bm];rfl
def Ty.Short:Nat->Ty->Prop
 |0,_=>True
 |n+1,t=>t.fields.length<=1000000000/\∀f∈t.fields,Ty.Short n f.2
theorem gq:∀(d:Nat)(t:Ty),bP d t=true->∀n,Ty.Short n t
 |0,t,h,_=>by cases h
 |d+1,t,h,0=>trivial
 |d+1,t,h,n+1=>by
  rw[dh]at h;simp only[DK,DU,DW]at h;exact⟨by omega,fun f hf=>gq d f.2 (h.2.1 f hf).2 n⟩
theorem ol{α:Type}{p:α->Bool}:{l:List α} ->{x:α} ->cX p l=some x->x∈l/\p x=true
 |[],x,h=>by cases h
 | y:: l,x,h=>by
  simp only[cX]at h;cases h2:cX p l with
  |some z=>
   rw[h2]at h;cases h
   have:=ol h2
   exact⟨Fw _ this.1,this.2⟩
  |none=>
   rw[h2]at h;cases h3:p y with
   |true=>rw[h3]at h;cases h;exact⟨E6,h3⟩
   |false=>rw[h3]at h;cases h
def kQ{α:Type}(P:α->Bool)(l:List α):(!l.any fun x=>!P x)=l.all P:=by simp[List.not_any_eq_all_not]
theorem t102:∀(n:Nat)(b a:Ty),Ty.Short n a->Ty.Short n b->bP n b=true->af pg 102 [a.av,b.av]=M.pure (.bool (jQ a b))
 |0,b,a,_,_,h=>by cases h
 | n+1,b,a,ha,hb,h=>by
  have ih:=t102 n;rw[dh]at h;simp only[DK,DU,DW]at h;have hf:∀f∈b.fields,dH (af pg) (.fn (.func 137) [] [.ip (ab a.av)]) [a6 f]=M.pure (.bool (!(match cX (fun z=>z.1== f.1) a.fields with|some z=>jQ z.2 f.2|none=>false))):=by
   intro f hfm;show af pg 137 [a6 f,.ip (ab a.av)]=_;have h1:=t138 a.fields ha.1 f.1;rw[C137];cases hl:cX (fun z:dV=>z.1== f.1) a.fields with
   |none=>
    rw[hl]at h1;simp[S137,h1,cl,dJ]
   |some z=>
    rw[hl]at h1;have h2:=ih f.2 z.2 (ha.2 z (ol hl).1) (hb.2 f hfm) (h.2.1 f hfm).2;simp[S137,h1,cl,dJ,h2]
  have h2:=t136 (.fn (.func 137) [] [.ip (ab a.av)]) _ b.fields (by have:=hb.1;omega) (fun g=>by simp[cl,dJ]) hf;rw[C102,tz];simp at h2;simp[S102,h2];rw[kQ];rfl
def t62(a b:Ty)(ha:a.Lim)(hb:b.Lim):af pg 62 [a.av,b.av]=M.pure (.bool (sB a b)):=by
 rw[C62];unfold sB;have h1:=t101 a ha;have h2:=t101 b hb;cases r1:ec a with
 |false=>
  rw[r1]at h1;simp[S62,h1]
 | true=>
  cases r2:ec b with
  |false=>
   rw[r1]at h1;rw[r2]at h2;simp[S62,h1,h2]
  |true=>
   rw[r1]at h1;rw[r2]at h2;have h3:=t102 4 b a (gq 4 a r1 4) (gq 4 b r2 4) r2;simp[S62,h1,h2,h3]
def t61(f:AV)(F:Ty->Ty->Bool)(a b:List Ty)(hb:a.length<=4611686018427387904)(hc:∀g,cl g f=f)(hf:∀x∈a,∀y∈b,dH (af pg) f [x.av,y.av]=M.pure (.bool (F x y))):af pg 61 [iR a,iR b,f]=M.pure (.bool (pE F a b)):=by
 rw[C61];by_cases h:a.length=b.length
 ·have hloop:=lj (FL61_0 (af pg)) (fun k=>[iR b,f,iR a,.int .i64 a.length,.int .i64 (k:Int)]) a.length (fun k=>F a[k]! b[k]!)
   (by simp[L61_0]) (fun k hk=>by
    have h1:(k:Int)<(a.length:Int):=by omega
    have h1b:(k:Int)<(b.length:Int):=by omega
    have hixa:=tk (l:=a) (n:=(k:Int)) (by omega) h1;have hixb:=tk (l:=b) (n:=(k:Int)) (by omega) h1b;rw[Eb]at hixa hixb;have hma:a[k]! ∈a:=by rw[EB a k hk];exact Ed hk
    have hmb:b[k]! ∈b:=by rw[EB b k (by omega)];exact Ed (by omega)
    have h3:=hf _ hma _ hmb;have hw:IntKind.i64.wrap ((k:Int)+1)=(k:Int)+1:=by rw[b5 (by omega)];simp
    generalize a[k]! = x at hixa h3 |-;generalize b[k]! = y at hixb h3 |-;simp[L61_0,hk,hixa,hixb,h3,hw];cases F x y<;>simp) 0 (ER _)
  rw[Ge,lI F a b h]at hloop;simp[S61,h,hc]at hloop |-;simp[hloop]
 ·have h2:=kv F a b h;have h3:(a.length != b.length)=true:=by simp[h]
  simp[S61,h3,hc,h2]
@[simp] theorem yX(t:Nat)(a b:Int):au T .andNot t (.int .i64 a) (.int .i64 b)=some (.int .i64 (eP a b)):=rfl
def t21(a b:Sig)(ha:a.Lim)(hb:b.Lim):af pg 21 [a.av,b.av]=M.pure (.bool (BI a b)):=by
 rw[C21];have h1:=t61 (.fn (.func 62) [] []) sB b.params a.params (by have:=hb.plen;omega) (fun g=>rfl) (fun x hx y hy=>t62 x y (hb.ptys x hx) (ha.ptys y hy));have h2:=t62 a.result b.result ha.result hb.result;unfold BI;cases r1:pE sB b.params a.params with
 |false=>
  rw[r1]at h1;simp[S21,h1]
 | true=>
  cases r2:sB a.result b.result with
  |false=>
   rw[r1]at h1;rw[r2]at h2;simp[S21,h1,h2]
  |true=>
   rw[r1]at h1;rw[r2]at h2;simp[S21,h1,h2]
def t85(t:Ty)(ht:t.Lim):af pg 85 [t.av]=M.pure (.bool (!(ec t))):=by
 rw[C85];simp[S85,t83 t ht]
def t53(s:Sig)(hs:s.Lim):af pg 53 [s.av]=M.pure (.bool (di s)):=by
 rw[C53];have h1:=t52 s.name;have h2:=t83 s.result hs.result;have h3:=t84 (.fn (.func 85) [] []) (fun t=>!(ec t)) s.params (by have:=hs.plen;omega) (fun g=>rfl) (fun x hx=>t85 x (hs.ptys x hx));unfold di;rw[<- kQ ec s.params];generalize (s.params.any fun x=>!ec x)=q at h3 |-;by_cases g1:dN s.name=true
 ·rw [g1]at h1;by_cases g2:s.params.length<=6
  ·have g2':¬(6<(s.params.length:Int)):=by omega
   have g2n:¬(6<s.params.length):=by omega
   by_cases g3:eP s.effects 15=0
   ·by_cases g4:ec s.result=true
    ·rw[g4]at h2;simp[S53,h1,h2,h3,g1,g2,g2',g2n,g3,g4]
    ·rw[F6]at g4;rw[g4]at h2;simp[S53,h1,h2,h3,g1,g2,g2',g2n,g3,g4]
   ·have g3':(eP s.effects 15== 0)=false:=EZ.2 g3;simp[S53,h1,h2,h3,g1,g2,g2',g2n,g3,g3']
  ·have g2':6<(s.params.length:Int):=by omega
   have g2n:6<s.params.length:=by omega
   simp[S53,h1,h2,h3,g1,g2,g2',g2n]
 ·rw[F6]at g1;rw[g1]at h1;simp[S53,h1,h2,h3,g1]
theorem t17(f:Face)(hf:f.Lim):af pg 17 [f.av]=M.pure (.bool (cP f)):=by
 have hlen:=hf.len;have hloop:=lj (FL17_0 (af pg)) (fun k=>[.ip (ab f.av),sigs f.funcs,.int .i64 f.funcs.length,.int .i64 (k:Int)]) f.funcs.length
  (fun k=>di f.funcs[k]! && (decide (k=0)||aN (f.funcs[k-1]!).name (f.funcs[k]!).name))
  (by simp[L17_0]) (fun k hk=>by
   have h1:(k:Int)<(f.funcs.length:Int):=by omega
   have hix:=uv (l:=f.funcs) (n:=(k:Int)) (by omega) h1;rw[Eb]at hix;have hm:f.funcs[k]! ∈f.funcs:=by rw[EB f.funcs k hk];exact Ed hk
   have h2:=t53 _ (hf.sigs _ hm);have hw:IntKind.i64.wrap ((k:Int)+1)=(k:Int)+1:=by rw[b5 (by omega)];simp
   generalize f.funcs[k]! = x at hix h2 hm |-;rcases EA k with hk0|hk0
   ·subst hk0;have hix0:az T 30 (sigs f.funcs) (.int .i64 0)=some (.ip (ab x.av)):=hix;have hw0:IntKind.i64.wrap 1=1:=rfl;simp[L17_0,hix0,h2,hw0,hk];cases di x<;>simp
   ·have hp:IntKind.i64.wrap ((k:Int)-1)=((k-1:Nat):Int):=by
     rw[eV (by omega) (by omega)];omega
    have h4:((k-1:Nat):Int)<(f.funcs.length:Int):=by omega
    have hix2:=uv (l:=f.funcs) (n:=((k-1:Nat):Int)) (by omega) h4;rw[Eb]at hix2;generalize f.funcs[k-1]! = g at hix2 |-;have hk1:¬k=0:=by omega
    simp[L17_0,h1,hix,h2,hw,hp,hix2,hk0,hk1,hk];cases di x<;>cases aN g.name x.name<;>simp) 0 (ER _)
 have hall:((List.range' 0 f.funcs.length).all fun k=>di f.funcs[k]! && (decide (k=0)||aN (f.funcs[k-1]!).name (f.funcs[k]!).name))=(f.funcs.all di&&iA (fun a b=>aN a.name b.name) f.funcs):=
  sG di (fun a b=>aN a.name b.name) f.funcs
 rw[Ge,hall]at hloop;have hl2:ai (L17_0 (af pg) ai) [.ip [.str f.module,sigs f.funcs],sigs f.funcs,.int .i64 f.funcs.length,.int .i64 0]=M.pure (.bool (f.funcs.all di&&iA (fun a b=>aN a.name b.name) f.funcs)):=by
  simpa using hloop
 rw[C17];have h1:=t52 f.module;unfold cP;by_cases g1:dN f.module=true
 ·rw[g1]at h1;by_cases g2:f.funcs.length<=30
  ·have g2':¬(30<(f.funcs.length:Int)):=by omega
   have g2n:¬(30<f.funcs.length):=by omega
   simp[S17,h1,g1,g2,g2',g2n,hl2]
  ·have g2':30<(f.funcs.length:Int):=by omega
   have g2n:30<f.funcs.length:=by omega
   simp[S17,h1,g1,g2,g2',g2n]
 ·rw[F6]at g1;rw[g1]at h1;simp[S17,h1,g1]
end Go.Proofs.YtgpmcoffkopjeaaGreatDoor
namespace Go.Proofs.YtgpmcoffkopjeaaGreatDoor
open Go Go.Av Go.Av.Ap
set_option maxRecDepth 100000
def aC{α β:Type}{m:M α}{a:α}{h h':Hp}(e:m h= .ok a h')(f:α->M β):ae m f h=f a h':=by simp only[ae,e]
def iT(h:Hp)(l:Nat)(r:Rs):Prop:=h[l]? = some [.str r.1,.bool r.2]
def eE(h:Hp)(l:Nat)(r:Rs):Hp:=h.set l [.str r.1,.bool r.2]
def iT.lt{h:Hp}{l:Nat}{r:Rs}(H:iT h l r):l<h.length:=by
 unfold iT at H;rcases D4 l h.length with h1|h1
 ·exact h1
 ·rw[DV h1]at H;cases H
def iT.put{h:Hp}{l:Nat}{r:Rs}(H:iT h l r)(r':Rs):iT (eE h l r') l r':=by
 unfold iT eE;rw[Ea,DR rfl,DR H.lt]
def b7(h:Hp)(l:Nat)(r r':Rs):eE (eE h l r) l r'=eE h l r':=by
 unfold eE;rw[List.set_set]
def ke{h:Hp}{l:Nat}{r:Rs}(H:iT h l r):eE h l r=h:=by
 unfold eE iT at *;exact Ft fun i=>by
  rw[Ea];split
  ·rename_i hi;subst hi;split
   ·exact H.symm
   ·rename_i hl;rw[DV (by omega)]
  ·rfl
section
variable {h:Hp} {l:Nat} {r:Rs} {β:Type}
theorem iT.ld0(H:iT h l r)(f:AV->M β):ae (cC T 9 (.hp l 0)) f h=f (.str r.1) h:=aC (rY (T:=T) (t:=9) rfl rfl H rfl) f
theorem iT.ld1(H:iT h l r)(f:AV->M β):ae (cC T 4 (.hp l 1)) f h=f (.bool r.2) h:=aC (rY (T:=T) (t:=4) rfl rfl H rfl) f
theorem iT.st0(H:iT h l r)(s:bj)(f:AV->M β):ae (cQ T 9 (.hp l 0) (.str s)) f h=f (.tup []) (eE h l (s,r.2)):=
 aC (po (T:=T) (t:=9) rfl (v:=.str s) H rfl (show 0+1<=2 by omega) (by decide)) f
theorem iT.st1(H:iT h l r)(b:Bool)(f:AV->M β):ae (cQ T 4 (.hp l 1) (.bool b)) f h=f (.tup []) (eE h l (r.1,b)):=
 aC (po (T:=T) (t:=4) rfl (v:=.bool b) H rfl (show 1+1<=2 by omega) (by decide)) f
end
theorem ui(l:Nat):bE (.hp l 0)=some (.hp l 0):=rfl
theorem fR0(l:Nat):aa T 99 (.hp l 0) 0=some (.hp l 0):=rfl
theorem fR1(l:Nat):aa T 99 (.hp l 0) 1=some (.hp l 1):=rfl
theorem nh(s:bj):a7 T 9 (.str s)=some (.int .i64 s.length):=rfl
def lm(s:bj){n:Int}(h0:0<=n)(h1:n<=s.length):dj T 9 (.str s) none (some (.int .i64 n)) none=some (.str (s.take n.toNat)):=by
 show (match bG (some (.int .i64 n)) s.length s.length with|none=>none|some h=>match bG none 0 h with|none=>none|some l=>some (AV.str ((s.take h).drop l)))=_;simp[bG,h0,h1]
def pn(s:bj){n:Int}(h0:0<=n)(h1:n<=s.length):dj T 9 (.str s) (some (.int .i64 n)) none none=some (.str (s.drop n.toNat)):=by
 show (match bG none s.length s.length with|none=>none|some h=>match bG (some (.int .i64 n)) 0 h with|none=>none|some l=>some (AV.str ((s.take h).drop l)))=_;have:n<=((s.length:Nat):Int):=h1;simp[bG,h0,this]
def t75{h:Hp}{l:Nat}{r:Rs}(H:iT h l r):af pg 75 [.hp l 0] h= .ok (.tup []) (eE h l eM):=by
 rw[C75];simp only[S75,ui,am,fR0,fR1,H.st0,(H.put _).st1,b7];rfl
def t70(n:Int)(h0:-9223372036854775808<=n)(h1:n<=9223372036854775807):af pg 70 [.int .i64 n]=M.pure (.str (bA n)):=by
 rw[cH hOther (E:=og) rfl];simp only[og,EV h0,EV h1,FW,DJ];rfl
def t110(s:bj)(h:s.length<=281474976710656):af pg 110 [.str s]=M.pure (kw 169 s):=by
 rw[cH hOther (E:=nD 169) rfl];simp only[nD,EV h,DJ];rfl
def t109(s:bj)(e:UInt8):af pg 109 [.str s,.int .u8 e.toNat]=M.pure (.int .i64 (Lib.indexByte s e)):=by
 rw[cH hOther (E:=d7) rfl];simp[d7]
theorem index_le:∀(s:bj)(e:UInt8),Lib.indexByte s e<s.length
 |[],e=>by simp[Lib.indexByte]
 |x:: s,e=>by
  have:=index_le s e
  simp only[Lib.indexByte,Ec];split
  ·omega
  ·split<;>omega
def wH(s:bj):s.take (min (s.length:Int) 21).toNat=s.take 21:=by
 rcases Nat.le_total s.length 21 with h|h
 ·rw[ES (by omega),ES (by omega)]
 ·congr 1;omega
theorem t74{h:Hp}{l:Nat}{r:Rs}(H:iT h l r)(hb:r.1.length<=1000000000)(e:UInt8):af pg 74 [.hp l 0,.int .u8 e.toNat,.int .i64 0] h= .ok (.int .i64 (aY e r).1) (eE h l (aY e r).2):=by
 have hmin:eO false [.int .i64 (r.1.length:Int),.int .i64 21]=some (.int .i64 (min (r.1.length:Int) 21)):=by
  rw[eO,ug];simp only[DO,eO];congr 2;omega
 have hs1:=lm r.1 (n:=min (r.1.length:Int) 21) (by omega) (by omega);rw[wH]at hs1;have hix:=t109 (r.1.take 21) e;have hle:=index_le (r.1.take 21) e;have hge:=Lib.indexByte_ge (r.1.take 21) e;have hlen:(r.1.take 21).length<=21:=by rw[ED];omega
 have hlen2:(r.1.take 21).length<=r.1.length:=by rw[ED];omega
 have hF:=t75 H;rw[C74];unfold aY;generalize r.1.take 21=hd at *;generalize Lib.indexByte hd e=a at *;simp only[S74,ui,am,fR0,H.ld0,nh,hmin,hs1,hix,ap,bp];by_cases ha:a<0
 ·simp only[ha,Ex,ar,El,aC hF];rfl
 ·have hs2:=lm hd (n:=a) (by omega) (by omega);have hat:=t110 (hd.take a.toNat) (by rw[ED];omega);have nn:∀x:AV,au T .neq 70 (.iface 169 x) .nili=some (.bool true):=fun _=>rfl;have nz:au T .neq 70 .nili .nili=some (.bool false):=rfl;simp only[ha,EL,ar,D2,Ek,hs2,am,hat,ap];cases hv:Lib.atoiAll (hd.take a.toNat)with
  | ok n=>
   have hr:=Lib.atoiAll_bounds hv;have hit:=t70 n hr.1 hr.2;have hw:IntKind.i64.wrap (a+1)=a+1:=eV (by omega) (by omega);have hs3:=pn r.1 (n:=a+1) (by omega) (by omega);have ns:∀x y:bj,au T .neq 9 (.str x) (.str y)=some (.bool (x != y)):=fun _ _=>rfl;simp only[kw,hv,bK,D3,Et,am,nz,ba,hit,ap,ns,aB,bX,bp,bl,fj];by_cases hq:bA n=hd.take a.toNat/\0<=n
   ·have h1:(bA n != hd.take a.toNat||decide (n<0))=false:=by simp[hq.1];omega
    rw[DR hq];simp only[h1,ar,D2,Ek,H.ld0,ga,am,hw,hs3,H.st0];rw[show (a+1).toNat=a.toNat+1 by omega];rfl
   ·have h1:(bA n != hd.take a.toNat||decide (n<0))=true:=by
     rw[Ey,Gq,DU];by_cases h2:bA n=hd.take a.toNat
     ·exact .inr (by have:¬0<=n:=fun h=>hq ⟨h2,h⟩;omega)
     ·exact .inl h2
    rw[if_neg hq];simp only[h1,ar,El,aC hF];rfl
  |range=>
   simp only[kw,hv,bK,D3,Et,am,nn,g9,ap,aW,ar,El,aC hF];rfl
  |_=>
   simp only[kw,hv,bK,D3,Et,am,nn,g9,ap,aW,ar,El,aC hF];rfl
def t39{h:Hp}{l:Nat}{r:Rs}(H:iT h l r)(hb:r.1.length<=1000000000):af pg 39 [.hp l 0] h= .ok (.int .i64 (aY 59 r).1) (eE h l (aY 59 r).2):=by
 have hn:=t74 H hb 59;rw[C39];have hn':af pg 74 [.hp l 0,.int .u8 59,.int .i64 0] h= .ok (.int .i64 (aY 59 r).1) (eE h l (aY 59 r).2):=hn;simp only[S39,aC hn',am];rfl
def t40{h:Hp}{l:Nat}{r:Rs}(H:iT h l r):af pg 40 [.hp l 0] h= .ok (.int .i64 r.1.length) h:=by
 rw[C40];simp only[S40,ui,am,fR0,H.ld0,nh];rfl
def dM(s p:bj):Bool:=decide ((p.length:Int)<=s.length)&&(s.take p.length== p)
def t167(s p:bj):af pg 167 [.str s,.str p]=M.pure (.bool (dM s p)):=by
 have es:∀x y:bj,au T .eql 9 (.str x) (.str y)=some (.bool (x== y)):=fun _ _=>rfl;have eg:∀x y:Int,au T .geq 3 (.int .i64 x) (.int .i64 y)=some (.bool (decide (y<=x))):=fun _ _=>rfl;rw[C167,show cl ax (.str s)= .str s from rfl,show cl ax (.str p)= .str p from rfl];have e:S167 (af pg) ai (.str s) (.str p)=M.pure (.bool (dM s p)):=by
  unfold dM;by_cases h:(p.length:Int)<=s.length
  ·have hs:=lm s (n:=(p.length:Int)) (by omega) h;rw[Eb]at hs;simp only[S167,nh,am,eg,h,Ex,ba,hs,es,ap,aB,aW,Fq]
  ·simp only[S167,nh,am,eg,h,EL,dn,ap,bX,Bool.false_and]
 rw[e];exact fP _
def t144(s p:bj):af pg 144 [.str s,.str p]=M.pure (.tup [.str (if dM s p=true then s.drop p.length else s),.bool (dM s p)]):=by
 rw[C144,show cl ax (.str s)= .str s from rfl,show cl ax (.str p)= .str p from rfl];have e:S144 (af pg) ai (.str s) (.str p)=M.pure (.tup [.str (if dM s p=true then s.drop p.length else s),.bool (dM s p)]):=by
  simp only[S144,t167,ap,fB,am,ar];cases hh:dM s p with
  |false=>simp
  | true=>
   have hle:(p.length:Int)<=s.length:=by
    unfold dM at hh;rw[DK,DU]at hh;exact hh.1
   have hs:=pn s (n:=(p.length:Int)) (by omega) hle;rw[Eb]at hs;simp only[Fg,D2,Ek,El,nh,am,hs]
 rw[e];exact b4 fun g=>rfl
def t111(s p:bj):af pg 111 [.str s,.str p]=M.pure (.tup [.str (if dM s p=true then s.drop p.length else s),.bool (dM s p)]):=by
 rw[C111,show cl ax (.str s)= .str s from rfl,show cl ax (.str p)= .str p from rfl];have e:S111 (af pg) ai (.str s) (.str p)=M.pure (.tup [.str (if dM s p=true then s.drop p.length else s),.bool (dM s p)]):=by
  simp only[S111,t144,ap,bK,D3,Et,am]
 rw[e];exact b4 fun g=>rfl
def gM(r:Rs):Rs:=match r.1 with
 |c:: s=>if c=44 then(s,r.2)else eM
 |[]=>eM
def t76{h:Hp}{l:Nat}{r:Rs}(H:iT h l r):af pg 76 [.hp l 0,.str [44]] h= .ok (.tup []) (eE h l (gM r)):=by
 have hc:=t111 r.1 [44];have hf:∀s,af pg 75 [.hp l 0] (eE h l (s,r.2))= .ok (.tup []) (eE h l eM):=fun s=>by rw[t75 (H.put _),b7]
 rw[C76];simp only[S76,ui,am,fR0,H.ld0,hc,ap,bK,D3,Et,H.st0,fB,ar];obtain⟨s,b⟩:=r;unfold gM dM;cases s with
 |nil=>
  simp only[Es,Ec];simp[aC (hf _)];rfl
 | cons c s=>
  by_cases hc44:c=44
  ·subst hc44;simp[M.pure];have g1:¬((s.length:Int)+1<1):=by omega
   have g2:(1:Int)<=(s.length:Int)+1:=by omega
   rw[if_neg g1,DR g2];rfl
  ·have:(c== 44)=false:=by simpa using hc44
   simp[hc44,aC (hf _),M.pure]
def q9(r:Rs):bF r=if(aY 58 r).1>((aY 58 r).2.1.length:Int)then([],eM)else
  (if(gM ((aY 58 r).2.1.drop (aY 58 r).1.toNat,(aY 58 r).2.2)).2=true then[]else(aY 58 r).2.1.take (aY 58 r).1.toNat,gM ((aY 58 r).2.1.drop (aY 58 r).1.toNat,(aY 58 r).2.2)):=by
 unfold bF gM;generalize aY 58 r=x;obtain⟨n,s,b⟩:=x;simp only;split
 ·rfl
 ·cases s.drop n.toNat with
  |nil=>simp[eM]
  |cons c t=>
   by_cases hc:c=44
   ·cases b<;>simp[hc]
   ·simp[hc,eM]
def s9(e:UInt8)(r:Rs):0<=(aY e r).1:=by
 unfold aY;split
 ·exact Int.le_refl 0
 ·split
  ·split
   ·rename_i h;exact h.2
   ·exact Int.le_refl 0
  ·exact Int.le_refl 0
def cR(e:UInt8)(r:Rs):(aY e r).2.1.length<=r.1.length:=by
 unfold aY eM;split
 ·simp
 ·split
  ·split
   ·simp
   ·simp
  ·simp
def rB(r:Rs):(gM r).1.length<=r.1.length:=by
 obtain⟨s,b⟩:=r;unfold gM eM;cases s with
 |nil=>simp
 |cons c s=>simp only;split<;>simp
def eY(r:Rs):(bF r).2.1.length<=r.1.length:=by
 rw[q9];have h1:=cR 58 r;split
 ·simp[eM]
 ·have:=rB ((aY 58 r).2.1.drop (aY 58 r).1.toNat,(aY 58 r).2.2)
  simp only[F0]at this |-;omega
def t38{h:Hp}{l:Nat}{r:Rs}(H:iT h l r)(hb:r.1.length<=1000000000):af pg 38 [.hp l 0] h= .ok (.str (bF r).1) (eE h l (bF r).2):=by
 have hn:=t74 H hb 58;have hn':af pg 74 [.hp l 0,.int .u8 58,.int .i64 0] h= .ok (.int .i64 (aY 58 r).1) (eE h l (aY 58 r).2):=hn;have hge:=s9 58 r;rw[C38,q9];generalize aY 58 r=x at *;obtain⟨n,q⟩:=x;have H1:=H.put q;have gt:∀x y:Int,au T .gtr 3 (.int .i64 x) (.int .i64 y)=some (.bool (decide (y<x))):=fun _ _=>rfl;simp only[S38,aC hn',ui,am,fR0,H1.ld0,nh,gt,ar];by_cases hq:n>(q.1.length:Int)
 ·have hf:=t75 H1;rw[b7]at hf;have hq':(q.1.length:Int)<n:=hq;rw[DR hq];simp only[hq',Ex,El,aC hf];rfl
 ·have s1:=lm q.1 (n:=n) hge (by omega);have s2:=pn q.1 (n:=n) hge (by omega);have hq':¬(q.1.length:Int)<n:=hq;have H2:=H1.put (q.1.drop n.toNat,q.2);have hc:=t76 H2;rw[b7,b7]at hc;rw[if_neg hq];simp only[hq',EL,D2,Ek,H1.ld0,s1,s2,am,H1.st0,b7];rw[aC hc];have H3:=H.put (gM (q.1.drop n.toNat,q.2));simp only[ui,am,fR1,H3.ld1,ar];split
  ·rename_i hz;simp[hz,M.pure]
  ·rename_i hz;simp[hz,M.pure]
end Go.Proofs.YtgpmcoffkopjeaaGreatDoor
namespace Go.Proofs.YtgpmcoffkopjeaaGreatDoor
open Go Go.Av Go.Av.Ap
set_option maxRecDepth 100000
theorem iH{α:Type}(one:Rs->α×Rs)(h1:∀r,(one r).2.1.length<=r.1.length)(n:Int)(cap:Nat):∀(f:Nat)(acc:List α)(r:Rs),(bd one n cap f acc r).2.1.length<=r.1.length
 |0,acc,r=>DT _
 |f+1,acc,r=>by
  rw[bd];split
  ·exact EG (iH one h1 n cap f _ _) (h1 r)
  ·exact DT _
def vC{ty:Rs->Ty×Rs}(h:∀r,(ty r).2.1.length<=r.1.length)(r:Rs):(na ty r).2.1.length<=r.1.length:=EG (h _) (eY r)
theorem ep:∀(d:Nat)(r:Rs),(aF d r).2.1.length<=r.1.length
 |0,r=>cR 59 r
 |d+1,r=>by
  rw[aF];split
  ·exact EG (iH _ (vC (ep d)) _ _ _ _ _) (EG (cR 59 _) (cR 59 r))
  ·exact cR 59 r
def Ct(f:dV):bM T 23 1 [(0,a6 f)]=some (bm [f]):=by
 rw[dL,show bm [f]= .sl [a6 f] by simp[bm,cN],dL];rfl
def pu(k:Int)(l:List dV):AV.agg [.int .i64 k,bm l]=(Ty.mk k l).av:=er (Ty.mk k l)
def vE(s:bj)(t:Ty):AV.agg [.str s,.int .i64 t.kind,bm t.fields]=a6 (s,t):=(dL (s,t)).symm
theorem zv(d:Nat)(hd:d<4)(n k:Int)(x3 x4:AV)(l:Nat)(ih:∀h r,iT h l r->r.1.length<=1000000000->af pg 41 [.hp l 0,.int .i64 d] h= .ok (aF d r).1.av (eE h l (aF d r).2)):
  ∀(f:Nat)(acc:List dV)(h:Hp)(r:Rs),iT h l r->r.1.length<=1000000000->10<=acc.length+f->acc.length<=10->
  ai (L41_0 (af pg) ai) [.hp l 0,.int .i64 ((d+1:Nat):Int),.int .i64 n,x3,x4,.int .i64 k,bm acc] h= .ok (Ty.mk k (bd (na (aF d)) n 8 f acc r).1).av (eE h l (bd (na (aF d)) n 8 f acc r).2):=by
 intro f
 induction f with
 |zero=>
  intro acc h r H hb hf ha;have h8:¬((acc.length:Int)<=8):=by omega
  rw[FL41_0];simp only[L41_0,aB,aT,jN,am,bp,dl,h8,EL,bl,eX,FF,dn,ap,bX,ar,D2,Ek,pu,ey,cb,Ty.kind,Ty.fields,bd,ke H];rfl
 | succ f ihf=>
  intro acc h r H hb hf ha;rw[FL41_0,bd];have gt:∀x y:Int,au T .gtr 3 (.int .i64 x) (.int .i64 y)=some (.bool (decide (y<x))):=fun _ _=>rfl;have hL:=t40 H;by_cases hc:(acc.length:Int)<n/\acc.length<=8
  ·have h8:(acc.length:Int)<=8:=by omega
   by_cases hr:0<r.1.length
   ·have hr':(0:Int)<(r.1.length:Int):=by omega
    have hT:=t38 H hb;have H1:=H.put (bF r).2;have hty:=ih _ _ H1 (by have:=eY r;omega);rw[b7]at hty;have H2:=H.put (aF d (bF r).2).2;have hrec:=ihf (acc++[((bF r).1,(aF d (bF r).2).1)]) _ _ H2 (by have:=eY r;have:=ep d (bF r).2;omega) (by simp;omega) (by simp;omega);rw[b7]at hrec;have hap:=B9 (a:=acc) (b:=[((bF r).1,(aF d (bF r).2).1)]) (by simp;omega);have hw:IntKind.i64.wrap (((d+1:Nat):Int)-1)=(d:Int):=kj (by omega);have b0:∀s:bj,db T false 55 [(0,.str s)]=some (.agg [.str s,.int .i64 0,.sl []]):=fun _=>rfl;have c0:∀s:bj,aG 3 [] (.agg [.str s,.int .i64 0,.sl []])=M.pure (.agg [.str s,.int .i64 0,.sl []]):=fun _=>rfl;have c1:∀q:List dV,cK (bm q)=M.pure (bm q):=fun _=>rfl;rw[DR ⟨hc.1,hc.2,hr⟩];have e1:(na (aF d) r).1=((bF r).1,(aF d (bF r).2).1):=rfl;have e2:(na (aF d) r).2=(aF d (bF r).2).2:=rfl;rw[e1,e2];simp only[L41_0,aB,aT,jN,am,bp,dl,hc.1,h8,Ex,ba,ap,aB,aW];rw[cv,aC hL];simp only[gt,hr',Ex,am,ap,aB,aW,ar,El];rw[aC hT];simp only[b0,c0,am,ap,sK,hw];rw[aC hty];simp only[ey,ap,fY,aB,aT,cb,vE,Ct,am,hap,c1];exact hrec
   ·have hr':¬(0:Int)<(r.1.length:Int):=by omega
    rw[if_neg (by rintro⟨_,_,q⟩;exact hr q)];simp only[L41_0,aB,aT,jN,am,bp,dl,hc.1,h8,Ex,ba,ap,aB,aW];rw[cv,aC hL];simp only[gt,hr',EL,am,ap,aB,aW,ar,D2,Ek,pu,ey,cb,aT,Ty.kind,Ty.fields,ke H];rfl
  ·have hcc:(decide ((acc.length:Int)<n)&&decide ((acc.length:Int)<=8))=false:=by
    rw[E3,Eu,Eu];by_cases h1:(acc.length:Int)<n
    ·exact .inr fun h2=>hc ⟨h1,by omega⟩
    ·exact .inl h1
   rw[if_neg (by rintro⟨q1,q2,_⟩;exact hc ⟨q1,q2⟩)];simp only[L41_0,aB,aT,jN,am,bp,dl,bl,eX,hcc,dn,ap,bX,ar,D2,Ek,pu,ey,cb,Ty.kind,Ty.fields,ke H];rfl
def t41(l:Nat):∀(d:Nat),d<=4->∀(h:Hp)(r:Rs),iT h l r->r.1.length<=1000000000->af pg 41 [.hp l 0,.int .i64 d] h= .ok (aF d r).1.av (eE h l (aF d r).2):=by
 have b0:∀k:Int,db T true 35 [(0,.int .i64 k)]=some (.agg [.int .i64 k,.hn]):=fun _=>rfl;have c0:∀k:Int,aG 2 [1] (.agg [.int .i64 k,.hn])=M.pure (.agg [.int .i64 k,.hn]):=fun _=>rfl;have c1:∀k:Int,aG 2 [] (.agg [.int .i64 k,.sl []])=M.pure (.agg [.int .i64 k,.sl []]):=fun _=>rfl;have nq:∀x y:Int,au T .neq 3 (.int .i64 x) (.int .i64 y)=some (.bool (x != y)):=fun _ _=>rfl;have f0:∀k:Int,AV.agg [.int .i64 k,.sl []]=(Ty.mk k []).av:=fun k=>er (Ty.mk k []);intro d
 induction d with
 |zero=>
  intro hd h r H hb;have hN:=t39 H hb;rw[C41,aF];simp only[S41];rw[aC hN];simp only[b0,c0,c1,am,ap,fY,aB,aT,nq,sJ,Int.ofNat_zero,BEq.rfl,bl,fj,Bool.or_true,ar,El];rw[f0];rfl
 | succ d ih=>
  intro hd h r H hb;have hN:=t39 H hb;have H1:=H.put (aY 59 r).2;have hN2:=t39 H1 (by have:=cR 59 r;omega);rw[b7]at hN2;rw[C41,aF];simp only[S41];rw[aC hN];have hz:(((d+1:Nat):Int)== 0)=false:=by rw[EZ];omega
  simp only[b0,c0,c1,am,ap,fY,aB,aT,nq,sJ,hz,bl,fj,Bool.or_false,ar];by_cases hk:(aY 59 r).1=2
  ·have hk':((aY 59 r).1 != 2)=false:=by rw[hk];rfl
   have H2:=H.put (aY 59 (aY 59 r).2).2;have hl:=zv d (by omega) (aY 59 (aY 59 r).2).1 (aY 59 r).1 (.int .i64 0) (.sl []) l (fun h r H hb=>ih (by omega) h r H hb) 10 [] _ _ H2 (by have:=cR 59 r;have:=cR 59 (aY 59 r).2;omega) (by simp) (by simp);rw[b7]at hl;simp only[hk',D2,Ek];rw[DR hk,aC hN2];exact hl
  ·have hk':((aY 59 r).1 != 2)=true:=by rw[Gq];exact hk
   simp only[hk',El];rw[if_neg hk,f0];rfl
def io(s:bj):List AV:=s.map fun b=>AV.int .u8 b.toNat
def fK(s:bj):List AV:=s.map fun b=>AV.byt 5 b.toNat
def uV(h:Hp)(l:Nat)(s:bj):Prop:=(s=[]/\(h[l]? = some [.nilb 68,.hn]\/h[l]? = some [.hp l 0,.hn]))\/(s≠[]/\∃lb,lb≠l/\h[l]? = some [.hp l 0,.hs lb 0 s.length 1 false]/\h[lb]? = some (fK s))
def pP(s:bj):lO 5 (io s)=some (fK s):=by
 induction s with
 |nil=>rfl
 |cons b s ih=>
  show (lO 5 (io s)).map (AV.byt 5 b.toNat:: ·)=_;rw[ih];rfl
def tH(s:bj):fD 5 (fK s)=some s:=by
 induction s with
 |nil=>rfl
 | cons b s ih=>
  show (match nI 5 (.byt 5 b.toNat),fD 5 (fK s)with|some b,some l=>some (b:: l)|_,_=>none)=_;have hb:nI 5 (.byt 5 (b.toNat:Int))=some b:=by
   have h1:(b.toNat:Int)<256:=by have:=b.toNat_lt;omega
   simp[nI,h1]
  rw[ih,hb]
def wW(s:bj):(fK s).all (kL 5)=true:=by
 rw[DW];intro x hx;obtain⟨b,_,rfl⟩:=Fe.1 hx;rfl
def hP{h:Hp}{l:Nat}{cs:List AV}(H:h[l]? = some cs):l<h.length:=by
 rcases D4 l h.length with h1|h1
 ·exact h1
 ·rw[DV h1]at H;cases H
def uS(s:bj)(hs:s≠[])(hb:s.length<=140737488355328)(h:Hp):lM T 66 .hn (.str s) h= .ok (.hs h.length 0 s.length 1 false) (h++[fK s]):=by
 show (match lO 5 (io s)with
  |none=>R.fail
  |some cs'=>bif (io s).isEmpty then R.ok AV.hn h else bif decide ((io s).length<=140737488355328)then R.ok (AV.hs h.length 0 (io s).length 1 false) (h++[cs'])else .fail)=_
 rw[pP];have e:(io s).isEmpty=false:=by cases s with|nil=>exact absurd rfl hs|cons=>rfl
 have e2:(io s).length=s.length:=by simp[io]
 simp[e,e2,hb]
theorem tr(h:Hp):lM T 66 .hn (.str []) h= .ok .hn h:=rfl
theorem tt(s t:bj)(hs:s≠[])(hb:s.length+t.length<=140737488355328)(h:Hp)(lb:Nat)(hl:h[lb]? = some (fK s)):lM T 66 (.hs lb 0 s.length 1 false) (.str t) h=
  if t=[]then R.ok (AV.hs lb 0 s.length 1 false) h else .ok (AV.hs h.length 0 (s.length+t.length) 1 false) ((h.set lb [])++[fK (s++t)]):=by
 show (match lO 5 (io t)with
  |none=>R.fail
  |some cs'=>match h[lb]? with
   |none=>.fail
   | some cs=>bif cs.all (kL 5)&&decide (s.length<=cs.length)&&decide (0<s.length)&&decide (s.length+(io t).length<=140737488355328)then
     (bif (io t).isEmpty then R.ok (AV.hs lb 0 s.length 1 false) h
     else .ok (AV.hs h.length 0 (s.length+(io t).length) 1 false) ((h.set lb [])++[cs.take s.length++cs']))else .fail)=_
 have h0:0<s.length:=EY.2 hs;have hlen:(fK s).length=s.length:=by simp[fK]
 have hlt:(io t).length=t.length:=by simp[io]
 rw[pP,hl];simp only[wW,hlen,hlt,h0,hb,Ex,DT,FW,DJ];have htk:(fK s).take s.length=fK s:=by rw[<- hlen,FY]
 cases t with
 |nil=>rfl
 |cons c t=>
  have e:(io (c:: t)).isEmpty=false:=rfl;simp only[e,DO,htk];rw[if_neg (by simp)];simp[fK]
theorem CL(l:Nat):bE (.hp l 0)=some (.hp l 0):=rfl
theorem fB1(l:Nat):aa T 68 (.hp l 0) 1=some (.hp l 1):=rfl
def t29{h:Hp}{l:Nat}{s:bj}(H:uV h l s)(t:bj)(hb:s.length+t.length<=140737488355328):∃h',af pg 29 [.hp l 0,.str t] h= .ok (.tup [.int .i64 t.length,.nili]) h'/\uV h' l (s++t):=by
 have hcc:∀y:AV,(h[l]? = some [.nilb 68,y]\/h[l]? = some [.hp l 0,y])->af pg 69 [.hp l 0] h= .ok (.tup []) (h.set l [.hp l 0,y]):=by
  intro y hy;rw[cH hOther (E:=e9 [(68,2)]) rfl];show (match h[l]? with|some cs=>(match AU [(68,2)] l cs with|some cs'=>R.ok (AV.tup []) (h.set l cs')|none=>.fail)|none=>.fail)=_;rcases hy with hy|hy<;>rw[hy]
  ·rfl
  ·show (match (bif Nat.beq l l&&Nat.beq 0 0 then some [AV.hp l 0,y]else none)with|some cs'=>R.ok (AV.tup []) (h.set l cs')|none=>.fail)=_;rw[Gd];rfl
 have hgo:∀(y z:AV)(h1 h2:Hp),af pg 69 [.hp l 0] h= .ok (.tup []) h1->h1[l]? = some [.hp l 0,y]->lM T 66 y (.str t) h1= .ok z h2->h2[l]? = some [.hp l 0,y]->bQ 1 z=true->ab z=[z]->
   af pg 29 [.hp l 0,.str t] h= .ok (.tup [.int .i64 t.length,.nili]) (h2.set l [.hp l 0,z]):=by
  intro y z h1 h2 e1 r1 e2 r2 ok ac;have ld:cC T 66 (.hp l 1) h1= .ok y h1:=rY (T:=T) (t:=66) rfl rfl r1 rfl;have stt:=po (T:=T) (t:=66) rfl (v:=z) r2 ok (show 1+1<=2 by omega) (by decide);rw[C29];simp only[S29,aC e1,CL,am,fB1];rw[aC ld,aC e2,aC stt,ac];rfl
 rcases H with⟨rfl,H⟩|⟨hs,lb,hne,H,Hb⟩
 ·have e1:=hcc .hn H;have hl:l<h.length:=by rcases H with H|H<;>exact hP H
  have r1:(h.set l [AV.hp l 0,.hn])[l]? = some [.hp l 0,.hn]:=by rw[Ea,DR rfl,DR hl]
  by_cases ht:t=[]
  ·subst ht;refine⟨_,hgo .hn .hn _ _ e1 r1 (tr _) r1 rfl rfl,.inl ⟨rfl,.inr ?_⟩⟩;rw[Ea,DR rfl,DR (by simpa using hl)]
  ·have e2:=uS t ht (by simpa using hb) (h.set l [AV.hp l 0,.hn]);have r2:(h.set l [AV.hp l 0,.hn]++[fK t])[l]? = some [.hp l 0,.hn]:=by rw[DZ (by simpa using hl)];exact r1
   refine⟨_,hgo .hn _ _ _ e1 r1 e2 r2 rfl rfl,.inr ⟨by simpa using ht,h.length,by omega,?_,?_⟩⟩
   ·rw[Ea,DR rfl,DR (by simp;omega)];simp
   ·rw[Ea,if_neg (by omega),D6 (by simp)];simp
 ·have e1:=hcc _ (.inr H);have hl:l<h.length:=hP H;have hlb:lb<h.length:=hP Hb;have hsame:h.set l [AV.hp l 0,.hs lb 0 s.length 1 false]=h:=Ft fun i=>by
   rw[Ea];split
   ·rename_i hi;subst hi;exact H.symm
   ·rfl
  rw[hsame]at e1;have e2:=tt s t hs hb h lb Hb;by_cases ht:t=[]
  ·subst ht;rw[DR rfl]at e2;refine⟨_,hgo _ _ _ _ e1 H e2 H rfl rfl,.inr ⟨by simpa using hs,lb,hne,?_,?_⟩⟩
   ·rw[Ea,DR rfl,DR hl];simp
   ·rw[Ea,if_neg (by omega),Hb];simp
  ·rw[if_neg ht]at e2;have r2:(h.set lb []++[fK (s++t)])[l]? = some [.hp l 0,.hs lb 0 s.length 1 false]:=by
    rw[DZ (by simpa using hl),Ea,if_neg hne,H]
   refine⟨_,hgo _ _ _ _ e1 H e2 r2 rfl rfl,.inr ⟨by simp[hs],h.length,by omega,?_,?_⟩⟩
   ·rw[Ea,DR rfl,DR (by simp;omega)];simp
   ·rw[Ea,if_neg (by omega),D6 (by simp)];simp
def t33{h:Hp}{l:Nat}{s:bj}(H:uV h l s)(hb:s.length<=140737488355328):∃h',af pg 33 [.hp l 0] h= .ok (.str s) h':=by
 rw[cH hOther (E:=dc 5) rfl];rcases H with⟨rfl,H⟩|⟨hs,lb,hne,H,Hb⟩
 ·refine⟨h,?_⟩;show (match h[l]? with|some cs=>_|none=>R.fail)=_;rcases H with H|H<;>rw[H]<;>rfl
 ·refine⟨h.set lb [],?_⟩;have h0:0<s.length:=EY.2 hs;have hst:stA [AV.hp l 0,.hs lb 0 s.length 1 false]=some (some (lb,s.length)):=by
   show (bif (Nat.beq 0 0&&Nat.beq 1 1&&!false&&Nat.blt 0 s.length&&Nat.ble s.length 140737488355328)then some (some (lb,s.length))else none)=_;have h1:Nat.blt 0 s.length=true:=F8 h0;have h2:Nat.ble s.length 140737488355328=true:=F8 hb;rw[h1,h2];rfl
  show (match h[l]? with|some cs=>(match stA cs with|some none=>R.ok (AV.str []) h|some (some (lb,len))=>(match h[lb]? with|some bs=>(match (bif Nat.ble len bs.length then fD 5 (bs.take len)else none)with|some s=>.ok (.str s) (h.set lb [])|none=>.fail)|none=>.fail)|none=>.fail)|none=>R.fail)=_;rw[H];simp only[hst,Hb];have hlen:(fK s).length=s.length:=by simp[fK]
  have h2:Nat.ble s.length (fK s).length=true:=F8 (by omega);have htk:(fK s).take s.length=fK s:=by rw[<- hlen,FY]
  simp only[h2,DJ,htk,tH]
def rt(a b:bj)(h:a.length+b.length<=4611686018427387904):au T .add 9 (.str a) (.str b)=some (.str (a++b)):=by
 show xR .add a b=_;simp[xR,h]
def t71(n:Int)(h0:-9223372036854775808<=n)(h1:n<=9223372036854775807):af pg 71 [.int .i64 n]=M.pure (.str (bA n++[59])):=by
 have hi:=t70 n h0 h1;have hl:=hJ n;have hc:=rt (bA n) [59] (by simp;omega);rw[C71,show cl ax (.int .i64 n)= .int .i64 n from rfl];simp only[S71,hi,ap,hc,am,jj]
def t31(n:Int)(h0:-9223372036854775808<=n)(h1:n<=9223372036854775807):af pg 31 [.int .i64 n]=M.pure (.str (cE n)):=by
 have hi:=t71 n h0 h1;rw[C31,show cl ax (.int .i64 n)= .int .i64 n from rfl];unfold cE;by_cases hn:n<0
 ·simp only[S31,bp,am,hn,Ex,ar,El,jj]
 ·simp only[S31,bp,am,hn,EL,ar,D2,Ek,hi,ap,jj]
def t30(s:bj)(hb:s.length<=1000000000):af pg 30 [.str s]=M.pure (.str (eU s)):=by
 have hi:=t70 (s.length:Int) (by omega) (by omega);have hl:=hJ (s.length:Int);have c1:=rt (bA (s.length:Int)) [58] (by simp;omega);have c2:=rt (bA (s.length:Int)++[58]) s (by simp;omega);have c3:=rt (bA (s.length:Int)++[58]++s) [44] (by simp;omega);rw[C30,show cl ax (.str s)= .str s from rfl];simp only[S30,nh,am,hi,ap,c1,c2,c3,jj,eU]
theorem nq(x y:Int):au T .neq 3 (.int .i64 x) (.int .i64 y)=some (.bool (x != y)):=rfl
theorem fT0(cs:List AV):aa T 35 (.ip cs) 0=some (.ip (cs.drop 0)):=rfl
theorem fT1(cs:List AV):aa T 35 (.ip cs) 1=some (.ip (cs.drop 1)):=rfl
def CY(t:Ty):ak T 3 (.ip ((ab t.av).drop 0))=some (.int .i64 t.kind):=by simp
def Dk(t:Ty):ak T 23 (.ip ((ab t.av).drop 1))=some (bm t.fields):=by simp
theorem fF0(cs:List AV):aa T 55 (.ip cs) 0=some (.ip (cs.drop 0)):=rfl
theorem fF1(cs:List AV):aa T 55 (.ip cs) 1=some (.ip (cs.drop 1)):=rfl
def Dc(f:dV):ak T 9 (.ip ((ab (a6 f)).drop 0))=some (.str f.1):=by simp
def Dd(f:dV):ak T 35 (.ip ((ab (a6 f)).drop 1))=some f.2.av:=by simp
def De(f:dV):ak T 55 (.ip (ab (a6 f)))=some (a6 f):=by simp
abbrev o6:Nat:=140737488355328
def wU(l:Nat)(t:Ty):Prop:=∀(h:Hp)(s:bj),uV h l s->(s++cS t).length<=o6->∃h',af pg 32 [.hp l 0,t.av] h= .ok (.tup []) h'/\uV h' l (s++cS t)
def zu(l:Nat)(fs:List dV)(hn:∀f∈fs,f.1.length<=20/\wU l f.2)(hlen:fs.length<=8):∀(n i:Nat),fs.length-i=n->i<=fs.length->∀(h:Hp)(s:bj),uV h l s->(s++(fs.drop i).flatMap eJ).length<=o6->
  ∃h',ai (L32_0 (af pg) ai) [.hp l 0,bm fs,.int .i64 fs.length,.int .i64 i] h= .ok (.tup []) h'/\uV h' l (s++(fs.drop i).flatMap eJ):=by
 intro n
 induction n with
 | zero=>
  intro i hi hle h s H hb;have g:¬((i:Int)<(fs.length:Int)):=by omega
  rw[FL32_0];refine⟨h,?_,?_⟩
  ·simp only[L32_0,aB,aT,bp,am,g,EL,ar,D2,Ek];rfl
  ·rw[ET (by omega)];simpa using H
 |succ n ih=>
  intro i hi hle h s H hb;have hlt:i<fs.length:=by omega
  have g:(i:Int)<(fs.length:Int):=by omega
  have hw:IntKind.i64.wrap ((i:Int)+1)=((i+1:Nat):Int):=b5 (by omega);have hix:=tj (l:=fs) (n:=(i:Int)) (by omega) g;rw[Eb,EB fs i hlt]at hix;obtain⟨h1,h2⟩:=hn _ (Ed hlt);rw[EN hlt,EU,g8]at hb |-;generalize fs[i]=f at *;have hwt:=t30 f.1 (by omega);obtain⟨q1,e1,B1⟩:=t29 H (eU f.1) (by simp only[DX,o6]at hb;omega);obtain⟨q2,e2,B2⟩:=h2 q1 _ B1 (by simp only[DX]at hb |-;omega);obtain⟨q3,e3,B3⟩:=ih (i+1) (by omega) (by omega) q2 _ B2 (by simp only[DX]at hb |-;omega);refine⟨q3,?_,by simpa using B3⟩;rw[FL32_0];simp only[L32_0,aB,aT,bp,am,g,Ex,ar,El,hix,De,lQ,ap,fF0,fF1,Dc,Dd,hwt];rw[aC e1];rw[aC e2];simp only[ga,am,hw];exact e3
theorem t32(l:Nat):∀(d:Nat)(t:Ty),bP d t=true->wU l t
 |0,t,hr=>by simp[bP]at hr
 | d+1,t,hr=>by
  intro h s H hb;rw[dh]at hr;simp only[DK,DU,Ey,E0,DW]at hr;obtain⟨⟨⟨⟨h0,h1⟩,h2⟩,h3⟩,h4,_⟩:=hr;have n1:=t31 t.kind (by omega) (by omega);rw[jK]at hb |-;obtain⟨q1,e1,B1⟩:=t29 H (cE t.kind) (by simp only[DX,o6]at hb;omega);rw[C32];by_cases hk:t.kind=2
  ·rw[DR hk]at hb |-;have hk':(t.kind != 2)=false:=by rw[hk];rfl
   have n2:=t31 (t.fields.length:Int) (by omega) (by omega);obtain⟨q2,e2,B2⟩:=t29 B1 (cE t.fields.length) (by simp only[DX,o6]at hb |-;omega);obtain⟨q3,e3,B3⟩:=zu l t.fields (fun f hf=>⟨dq (h4 f hf).1,t32 l d f.2 (h4 f hf).2⟩) h2 t.fields.length 0 rfl (by omega) q2 _ B2 (by simp only[Fa,DX]at hb |-;omega);refine⟨q3,?_,by simpa using B3⟩;have e3':ai (L32_0 (af pg) ai) [.hp l 0,bm t.fields,.int .i64 t.fields.length,.int .i64 0] q2= .ok (.tup []) q3:=e3;simp only[S32,fT0,am,CY,n1,ap];rw[aC e1];simp only[nq,hk',am,ar,D2,Ek,fT1,Dk,jN,n2,ap];rw[aC e2];exact e3'
  ·rw[if_neg hk,Gf]at hb |-;have hk':(t.kind != 2)=true:=by rw[Gq];exact hk
   refine⟨q1,?_,B1⟩;simp only[S32,fT0,am,CY,n1,ap];rw[aC e1];simp only[nq,hk',am,ar,El];rfl
theorem fS0(cs:List AV):aa T 37 (.ip cs) 0=some (.ip (cs.drop 0)):=rfl
theorem fS1(cs:List AV):aa T 37 (.ip cs) 1=some (.ip (cs.drop 1)):=rfl
theorem fS2(cs:List AV):aa T 37 (.ip cs) 2=some (.ip (cs.drop 2)):=rfl
theorem fS3(cs:List AV):aa T 37 (.ip cs) 3=some (.ip (cs.drop 4)):=rfl
def Df(t:Sig):ak T 9 (.ip ((ab t.av).drop 0))=some (.str t.name):=by simp
def Dg(t:Sig):ak T 33 (.ip ((ab t.av).drop 1))=some (iR t.params):=by simp
def Dh(t:Sig):ak T 35 (.ip ((ab t.av).drop 2))=some t.result.av:=by simp
def Di(t:Sig):ak T 3 (.ip ((ab t.av).drop 4))=some (.int .i64 t.effects):=by simp
def Dj(t:Sig):ak T 37 (.ip (ab t.av))=some t.av:=by simp
def Dl(t:Ty):ak T 35 (.ip (ab t.av))=some t.av:=by simp
def zx(l:Nat)(x:Sig)(fs:AV)(n k:Int)(hk0:0<=k)(hk:k<=1000)(hp:∀t∈x.params,wU l t)(hr:wU l x.result)(he:-9223372036854775808<=x.effects/\x.effects<=9223372036854775807)(hlen:x.params.length<=6)(cont:List AV->M AV):
  ∀(m j:Nat),x.params.length-j=m->j<=x.params.length->∀(h:Hp)(s:bj),uV h l s->(s++((x.params.drop j).flatMap cS++cS x.result++cE x.effects)).length<=o6->
  ∃h',ai (L9_0 (af pg) ai cont) [.hp l 0,.ip (ab x.av),fs,.int .i64 n,.int .i64 k,iR x.params,.int .i64 x.params.length,.int .i64 j] h=cont [.hp l 0,fs,.int .i64 n,.int .i64 (k+1)] h'/\uV h' l (s++((x.params.drop j).flatMap cS++cS x.result++cE x.effects)):=by
 intro m
 induction m with
 |zero=>
  intro j hj hle h s H hb;have g:¬((j:Int)<(x.params.length:Int)):=by omega
  have hw:IntKind.i64.wrap (k+1)=k+1:=eV (by omega) (by omega);rw[ET (by omega),List.flatMap_nil,En]at hb |-;obtain⟨q1,e1,B1⟩:=hr h s H (by simp only[DX]at hb |-;omega);have n1:=t31 x.effects he.1 he.2;obtain⟨q2,e2,B2⟩:=t29 B1 (cE x.effects) (by simp only[DX,o6]at hb |-;omega);refine⟨q2,?_,by simpa using B2⟩;rw[FL9_0];simp only[L9_0,aB,aT,bp,am,g,EL,ar,D2,Ek,fS2,Dh];rw[aC e1];simp only[fS3,am,Di,n1,ap];rw[aC e2];simp only[ga,am,hw]
 |succ m ih=>
  intro j hj hle h s H hb;have hlt:j<x.params.length:=by omega
  have g:(j:Int)<(x.params.length:Int):=by omega
  have hw:IntKind.i64.wrap ((j:Int)+1)=((j+1:Nat):Int):=b5 (by omega);have hix:=tk (l:=x.params) (n:=(j:Int)) (by omega) g;rw[Eb,EB x.params j hlt]at hix;have h2:=hp _ (Ed hlt);rw[EN hlt,EU]at hb |-;generalize x.params[j]=t at *;obtain⟨q1,e1,B1⟩:=h2 h s H (by simp only[DX]at hb |-;omega);obtain⟨q2,e2,B2⟩:=ih (j+1) (by omega) (by omega) q1 _ B1 (by simp only[DX]at hb |-;omega);refine⟨q2,?_,by simpa using B2⟩;rw[FL9_0];simp only[L9_0,aB,aT,bp,am,g,Ex,ar,El,hix,Dl,jR,ap];rw[aC e1];simp only[ga,am,hw];exact e2
def tN(s:Sig):Prop:=-9223372036854775808<=s.effects/\s.effects<=9223372036854775807
def zy(l:Nat)(fs:List Sig)(hf:∀s∈fs,di s=true/\tN s)(hlen:fs.length<=30):∀(m i:Nat),fs.length-i=m->i<=fs.length->∀(h:Hp)(s:bj),uV h l s->(s++(fs.drop i).flatMap iq).length<=o6->
  ∃h',ai (L9_1 (af pg) ai) [.hp l 0,sigs fs,.int .i64 fs.length,.int .i64 i] h= .ok (.tup [.str (s++(fs.drop i).flatMap iq),.int .i64 0]) h':=by
 intro m
 induction m with
 |zero=>
  intro i hi hle h s H hb;have g:¬((i:Int)<(fs.length:Int)):=by omega
  rw[ET (by omega),List.flatMap_nil,Gf]at hb |-;obtain⟨q,e⟩:=t33 H hb;refine⟨q,?_⟩;rw[FL9_1];simp only[L9_1,aB,aT,bp,am,g,EL,ar,D2,Ek];rw[aC e];rfl
 | succ m ih=>
  intro i hi hle h s H hb;have hlt:i<fs.length:=by omega
  have g:(i:Int)<(fs.length:Int):=by omega
  have hix:=uv (l:=fs) (n:=(i:Int)) (by omega) g;rw[Eb,EB fs i hlt]at hix;obtain⟨h1,h2⟩:=hf _ (Ed hlt);rw[EN hlt,EU]at hb |-;have ih':=ih (i+1) (by omega) (by omega);generalize fs[i]=x at *;have hS:=h1;unfold di at h1;simp only[DK,DU,DW]at h1;obtain⟨⟨⟨⟨g1,g2⟩,_⟩,g4⟩,g5⟩:=h1;have hnl:=dq g1;have hwt:=t30 x.name (by omega);have n1:=t31 (x.params.length:Int) (by omega) (by omega);have hc:=rt (eU x.name) (cE x.params.length) (by have:=fV hnl;have:=eC (x.params.length:Int);omega);have eT:iq x=(eU x.name++cE x.params.length)++(x.params.flatMap cS++cS x.result++cE x.effects):=by simp[iq]
  rw[eT]at hb |-;obtain⟨q1,e1,B1⟩:=t29 H (eU x.name++cE x.params.length) (by simp only[DX,o6]at hb |-;omega);obtain⟨q2,e2,B2⟩:=zx l x (sigs fs) fs.length i (by omega) (by omega) (fun t ht=>t32 l 4 t (g5 t ht)) (t32 l 4 _ g4) h2 g2 (ai (L9_1 (af pg) ai)) x.params.length 0 rfl (by omega) q1 _ B1 (by simp only[Fa,DX]at hb |-;omega);rw[Fa]at B2;obtain⟨q3,e3⟩:=ih' q2 _ B2 (by simp only[DX]at hb |-;omega);refine⟨q3,?_⟩;have e3':ai (L9_1 (af pg) ai) [.hp l 0,sigs fs,.int .i64 fs.length,.int .i64 ((i:Int)+1)] q2= .ok (.tup [.str (s++(eU x.name++cE x.params.length++(x.params.flatMap cS++cS x.result++cE x.effects)++(fs.drop (i+1)).flatMap iq)),.int .i64 0]) q3:=by
   rw[show ((i:Int)+1)=((i+1:Nat):Int) by omega,e3];simp
  rw[FL9_1];simp only[L9_1,aB,aT,bp,am,g,Ex,ar,El,hix,Dj,ru,ap,fS0,fS1,Df,Dg,hwt,iK,ly,n1,hc];rw[aC e1];exact e2.trans e3'
theorem fA0(cs:List AV):aa T 32 (.ip cs) 0=some (.ip (cs.drop 0)):=rfl
theorem fA1(cs:List AV):aa T 32 (.ip cs) 1=some (.ip (cs.drop 1)):=rfl
def Da(t:Face):ak T 9 (.ip ((ab t.av).drop 0))=some (.str t.module):=by simp
def Db(t:Face):ak T 30 (.ip ((ab t.av).drop 1))=some (sigs t.funcs):=by simp
def CX(t:Face):ak T 32 (.ip (ab t.av))=some t.av:=by simp
theorem t9(f:Face)(hL:f.Lim)(he:∀s∈f.funcs,tN s):af pg 9 [f.av]=M.pure (.tup [.str (fl f).1,.int .i64 (fl f).2]):=by
 have hR:=t17 f hL;rw[C9,g7];unfold fl;cases hr:cP f with
 | false=>
  rw[hr]at hR;have e:S9 (af pg) ai f.av=M.pure (.tup [.str [],.int .i64 1]):=by
   simp only[S9,CX,am,hR,ap,fB,Bool.not_false,ar,El]
  rw[e];exact b4 fun g=>rfl
 | true=>
  rw[hr]at hR;have hlen:=p9 hr;have hr':=hr;unfold cP at hr';simp only[DK,DU,DW]at hr';obtain⟨⟨h1,h2⟩,h3,_⟩:=hr';have hnl:=dq h1;have hwt:=t30 f.module (by omega);have n1:=t31 (f.funcs.length:Int) (by omega) (by omega);have hc:=rt (eU f.module) (cE f.funcs.length) (by have:=fV hnl;have:=eC (f.funcs.length:Int);omega);have B0:uV [[AV.nilb 68,.hn]] 0 []:=.inl ⟨rfl,.inl rfl⟩;have l1:=fV hnl;have l2:=eC (f.funcs.length:Int);obtain⟨q1,e1,B1⟩:=t29 B0 (eU f.module++cE f.funcs.length) (by simp;omega);rw[En]at B1;obtain⟨q2,e2⟩:=zy 0 f.funcs (fun s hs=>⟨h3 s hs,he s hs⟩) h2 f.funcs.length 0 rfl (by omega) q1 _ B1 (by
   have:eU f.module++cE f.funcs.length++f.funcs.flatMap iq=fa f:=rfl;rw[Fa,this];exact EG hlen (by decide))
  rw[Fa]at e2;have key:S9 (af pg) ai f.av []= .ok (.tup [.str (fa f),.int .i64 0]) q2:=by
   have nb:qI 68 [.nilp,.hn] []= .ok (.hp 0 0) [[AV.nilb 68,.hn]]:=rfl;simp only[S9,CX,am,hR,ap,fB,Fg,ar,D2,Ek];rw[aC nb];simp only[fA0,fA1,Da,Db,am,hwt,iK,ap,lx,n1,hc];rw[aC e1];exact e2
  rw[DR rfl];funext h;unfold aK;rw[key];rfl
end Go.Proofs.YtgpmcoffkopjeaaGreatDoor
