/- What the functions compute, part 2. Conditions: bounds. -/
import Derived.Test.YtbndmpiddinalacGreatDoorTa
import Derived.Test.YtbndmpiddinalacGreatDoorRows
import Derived.Lib.LaidTab
import Derived.Stop.LaidErr
import Derived.Shelf.Vars
import Derived.ProofKit
import Derived.Deep.DeepHandedRow
import Derived.Deep.DeepWitnessRowRef
import Derived.Deep.DeepLaidRun
import Derived.Test.YtbndmpiddinalacGreatDoorLd
set_option linter.defProp false
set_option linter.unusedSimpArgs false
set_option linter.unusedVariables false
namespace Go.Proofs.YtbndmpiddinalacGreatDoor
open Go Go.Av
set_option maxRecDepth 100000
def rG(w:World):(rF w).heap.size=w.heap.size+2:=by simp[rF]
def I2(w:World)(b:Nat)(hb:b<w.heap.size):(rF w).heap[b]? = w.heap[b]?:=by
 grind [rF,Go.Av.alloc_old]
def Bw(w:World):Gro w (rF w):=(Gro.alloc w _ _).trans (Gro.alloc _ _ _)
def Bv(w w':World)(u0 u1 u2 u3 e:Value):Gro w' (Dg w w' u0 u1 u2 u3 e):=
 ((((Gro.setCell _ _ _).trans (Gro.setCell _ _ _)).trans (Gro.setCell _ _ _)).trans (Gro.setCell _ _ _)).trans (Gro.setCell _ _ _)
def xG(w w':World)(u0 u1 u2 u3 e:Value)(b:Nat)(hb:¬(w.heap.size<=b/\b<(rF w).heap.size)):(Dg w w' u0 u1 u2 u3 e).heap[b]? = w'.heap[b]?:=by
 rw[rG]at hb;unfold Dg;rw[gK WD,gK WD,gK WD,gK WD,gK WD]
def wE{call:FuncId->List AV->M AV}{f:AV}{xs:List AV}{h:Hp}(hr:cV call f xs h≠.fail):∃g a c,f= .fn (.func g) a c:=by
 unfold cV at hr;split at hr
 ·grind
 ·exact absurd rfl hr
theorem OO:PC:=by
 intro call hC args h S β w vs hr hg hw hh hv
 have key:∀f,args=[f]->Calls Tryz.prog 82 vs.toArray w (fg none S β h w (Bt 26 .i64 (.agg [.int .i64 0,.int .i64 0,.sl [],.sl []]) call args h)):=by
  rintro f rfl;have ht:Bt 26 .i64 (.agg [.int .i64 0,.int .i64 0,.sl [],.sl []]) call [f] h=Bu 26 .i64 (.agg [.int .i64 0,.int .i64 0,.sl [],.sl []]) (cV call f [] h):=rfl;rw[ht]at hr |-;clear ht;simp only[bF]at hv;obtain⟨fv,_,rfl,hv,rfl⟩:=hv;have hne:cV call f [] h≠.fail:=fun e=>by rw[e]at hr;exact hr rfl
  obtain⟨g,a,c,rfl⟩:=wE hne
  ·have hcv:cV call (.fn (.func g) a c) [] h=call g (a++[]++c) h:=rfl;rw[hcv]at hr hne |-;simp only[VR]at hv;obtain⟨x,y,rfl,hx,hy⟩:=hv;have hold:=I2 w;have hv2:bF S β (a++[]++c) (x++y):=by simpa using hx.append hy
   obtain⟨hcall,hfn⟩:=hC g (a++[]++c) h S β (rF w) (x++y) hne ⟨hg.1.mono fun b hb=>hold b (Nat.lt_of_lt_of_le hb hg.1.lt),hg.2⟩ (hw.grow hold) (hh.grow hold) hv2;refine I3 g x.toArray y.toArray w _ hfn ?_;have e:(x++y).toArray=x.toArray++y.toArray:=Z8
   rw[<- e];refine hcall.mono fun en w' hp=>?_;have kk:∀S' β' h',Go.Av.Left (dk β h) S β (rF w) S' β' w' h'->w'.heap[w.heap.size]? = (rF w).heap[w.heap.size]? /\w'.heap[w.heap.size+1]? = (rF w).heap[w.heap.size+1]?:=fun S' β' h' L=>
    ⟨(L.keep _ (by rw[rG];omega) fun ho=>by have:=hh.low ho;omega).1,(L.keep _ (by rw[rG];omega) fun ho=>by have:=hh.low ho;omega).1⟩
   generalize call g (a++[]++c) h=r at hr hne hp |-;cases r with
   |fail=>grind
   | ok v h'=>
    obtain⟨S',β',u,rfl,hu,L,_⟩:=hp;refine⟨(kk _ _ _ L).1,(kk _ _ _ L).2,.inl ?_⟩;simp only[Bu]at hr |-;cases hok:bY 4 v with
    |false=>grind
    | true=>
     obtain⟨g1,g2,g3⟩:=kp hok hu;have hcs:∃cs,v= .agg cs:=by
      simp only[bY,XJ]at hok;have h1:=hok.1;cases v<;>simp[dC]at h1;exact⟨_,rfl⟩
     obtain⟨cs,rfl⟩:=hcs;simp only[VR]at hu;obtain⟨us,rfl,hus⟩:=hu;simp only[Value.cells]at g1 g3
     match us,g1 with
     |[u0,u1,u2,u3],_=>
      refine⟨u0,u1,u2,u3,g3 u0 Z8,g3 u1 Z8,g3 u2 Z8,g3 u3 Z8,rfl,S',β',_,rfl,?_,qZ (Bw w) hold L (Bv ..) (fun b hb=>xG w w' _ _ _ _ _ b hb) hw hh,fun sz hsz=>by cases hsz⟩;simp only[VR,bF];exact⟨[.agg #[u0,u1,u2,u3],.int .i64 0],rfl,_,_,rfl,⟨[u0,u1,u2,u3],rfl,hus⟩,_,_,rfl,rfl,rfl⟩
   | pan v h'=>
    obtain⟨S',β',u,rfl,hu,L⟩:=hp;refine⟨(kk _ _ _ L).1,(kk _ _ _ L).2,.inr ?_⟩;unfold Bu at hr |-;split at hr
    ·grind
    ·rename_i t' k' n h'' heq;cases heq;cases hb:(Nat.beq t' 26&&decide (k'=IntKind.i64))with
     |false=>grind
     |true=>
      simp only[XJ,XI]at hb;obtain⟨hb1,rfl⟩:=hb
      have:=Nat.eq_of_beq_eq_true hb1
      subst this;simp only[VR]at hu;obtain⟨u',rfl,rfl⟩:=hu;refine⟨n,rfl,S',β',_,rfl,?_,qZ (Bw w) hold L (Bv ..) (fun b hb=>xG w w' _ _ _ _ _ b hb) hw hh,fun sz hsz=>by cases hsz⟩;simp only[VR,bF];refine⟨[.agg #[.int .i64 0,.int .i64 0,.slice none 0 0,.slice none 0 0],.int .i64 n],rfl,_,_,rfl,⟨[.int .i64 0,.int .i64 0,.slice none 0 0,.slice none 0 0],rfl,_,_,rfl,rfl,_,_,rfl,rfl,_,_,rfl,?_,_,_,rfl,?_,rfl⟩,_,_,rfl,rfl,rfl⟩
      ·exact⟨none,0,rfl,XM _,fun _=>rfl,fun q hq=>by cases hq⟩
      ·exact⟨none,0,rfl,XM _,fun _=>rfl,fun q hq=>by cases hq⟩
    grind
 rcases args with _|⟨f,_|⟨f2,r⟩⟩
 ·exact absurd rfl hr
 ·exact key _ rfl
 ·exact absurd rfl hr
set_option maxHeartbeats 4000000 in
def Iw(p q:Addr)(w:World):CallsD Tryz.prog 52 #[.pointer (some p),.pointer (some q)] .returning w fun e u' w'=>e= .returned (.tuple #[])/\u'= .returning/\w'=w:=by
 refine callsD_of_wpS Tryz.func52 rfl fun c₀ cs hu=>?_;apply wpS_seq;apply wpS_region;simp[wpOpsS,go_sem,recoverD,hu,Tryz.ntmps52,Exit.thenS];refine wpS_of_wp ?_
 go_wp2
 cases c₀;simp_all[bodyPostS,results]
def rq(w:World):World:=(w.alloc (Obj.cells #[Value.int IntKind.i64 0] 3)).alloc (Obj.cells #[Value.int IntKind.i64 0] 26)
def Is(w w':World):World:=(w'.setCell ⟨w.heap.size,0,none⟩ (.int .i64 0)).setCell ⟨w.heap.size+1,0,none⟩ (.int .i64 0)
set_option maxHeartbeats 4000000 in
def Iy(g:FuncId)(x y:Array Value)(p:Value)(w:World)(R:Ending->World->Prop)(hfn:(Tryz.prog.funcs[g]?).any (fun fn=>fn.body.isSome&&!(fn.name== "runtime.NumGoroutine"))=true)(hc:Calls Tryz.prog g (x++y) (rq w) fun e w'=>w'.heap[w.heap.size]? = (rq w).heap[w.heap.size]? /\w'.heap[w.heap.size+1]? = (rq w).heap[w.heap.size+1]? /\(∃u,e= .returned u)/\R (.returned (.tuple #[.int .i64 0,.int .i64 0])) (Is w w')):Calls Tryz.prog 24 #[p,.func (.func g) x y] w R:=by
 have hmf:∀(fn:Fn)(first cap:Array Value)(w:World),(Instr.makeFunc fn first cap).run Tryz.prog w= .ok (.func fn first cap) w:=fun _ _ _ _=>rfl
 go_enter_defers Tryz.func24,Tryz.ntmps24
 go_wp2
 rw[iE hfn,Oper.upon_enter];refine hc.mono fun e w' h=>?_;obtain⟨k0,k1,⟨u,rfl⟩,hR⟩:=h;have r0:w'.heap[w.heap.size]? = some (.cells #[Value.int IntKind.i64 0] 3):=by rw[k0];exact (Go.Av.alloc_old _ _ Z8).trans (heap_alloc_new w _)
 have r1:w'.heap[w.heap.size+1]? = some (.cells #[Value.int IntKind.i64 0] 26):=by rw[k1];have:=heap_alloc_new (w.alloc (Obj.cells #[Value.int IntKind.i64 0] 3)) (Obj.cells #[Value.int IntKind.i64 0] 26);rwa [World.size_alloc]at this
 have c0:w'.cell? ⟨w.heap.size,0,none⟩=some (.int .i64 0):=by simp[World.cell?,r0]
 have d0:w'.cell? ⟨w.heap.size+1,0,none⟩=some (.int .i64 0):=by simp[World.cell?,r1]
 have f0:w'.frozen? ⟨w.heap.size,0,none⟩=false:=by simp[World.frozen?,r0]
 have g0:w'.frozen? ⟨w.heap.size+1,0,none⟩=false:=by simp[World.frozen?,r1]
 clear k0 k1 r0 r1 hc hmf;simp only
 go_wp2
 change Leaves _ _ _ _ _ _ _;refine leaves_cons (f:=52) (args:=#[.pointer (some ⟨w.heap.size,0,none⟩),.pointer (some ⟨w.heap.size+1,0,none⟩)]) Z8 (by simp[go_sem]) ?_;refine (Iw ⟨w.heap.size,0,none⟩ ⟨w.heap.size+1,0,none⟩ _).mono ?_;rintro e u' w'' ⟨rfl,rfl,rfl⟩;simp only[Leaves,settle];refine⟨_,?_,hR⟩;simp[results,Tryz.results24,go_sem,Is,World.cell?_setCell_same,c0,d0]
theorem ru(w:World):(rq w).heap.size=w.heap.size+2:=by simp[rq]
def Iv(w:World)(b:Nat)(hb:b<w.heap.size):(rq w).heap[b]? = w.heap[b]?:=by
 grind [rq,Go.Av.alloc_old]
def Iu(w:World):Gro w (rq w):=(Gro.alloc w _ _).trans (Gro.alloc _ _ _)
def It(w w':World):Gro w' (Is w w'):=(Gro.setCell _ _ _).trans (Gro.setCell _ _ _)
def FZ(w w':World)(b:Nat)(hb:¬(w.heap.size<=b/\b<(rq w).heap.size)):(Is w w').heap[b]? = w'.heap[b]?:=by
 grind [ru,Is,gK]
theorem Sy(call:FuncId->List AV->M AV)(hC:dF Tryz.prog own call)(args:List AV)(h:Hp)(S:aD)(β:List cF)(w:World)(vs:List Value)(hr:qn call args h≠.fail)(hg:wi S β h w)(hw:Wf S w)(hh:dG S β w h)(hv:bF S β args vs):
  Calls Tryz.prog 24 vs.toArray w (fg none S β h w (qn call args h)):=by
 have key:∀p f,args=[p,f]->Calls Tryz.prog 24 vs.toArray w (fg none S β h w (qn call args h)):=by
  rintro p f rfl;have ht:qn call [p,f] h=jG (cV call f [] h):=rfl;rw[ht]at hr |-;clear ht;simp only[bF]at hv;obtain⟨pv,_,rfl,_,fv,_,rfl,hv,rfl⟩:=hv;have hne:cV call f [] h≠.fail:=fun e=>by rw[e]at hr;exact hr rfl
  obtain⟨g,a,c,rfl⟩:=wE hne;have hcv:cV call (.fn (.func g) a c) [] h=call g (a++[]++c) h:=rfl;rw[hcv]at hr hne |-;simp only[VR]at hv;obtain⟨x,y,rfl,hx,hy⟩:=hv;have hold:=Iv w;have hv2:bF S β (a++[]++c) (x++y):=by simpa using hx.append hy
  obtain⟨hcall,hfn⟩:=hC g (a++[]++c) h S β (rq w) (x++y) hne ⟨hg.1.mono fun b hb=>hold b (Nat.lt_of_lt_of_le hb hg.1.lt),hg.2⟩ (hw.grow hold) (hh.grow hold) hv2;refine Iy g x.toArray y.toArray pv w _ hfn ?_;have e:(x++y).toArray=x.toArray++y.toArray:=Z8
  rw[<- e];refine hcall.mono fun en w' hp=>?_;have kk:∀S' β' h',Go.Av.Left (dk β h) S β (rq w) S' β' w' h'->w'.heap[w.heap.size]? = (rq w).heap[w.heap.size]? /\w'.heap[w.heap.size+1]? = (rq w).heap[w.heap.size+1]?:=fun S' β' h' L=>
   ⟨(L.keep _ (by rw[ru];omega) fun ho=>by have:=hh.low ho;omega).1,(L.keep _ (by rw[ru];omega) fun ho=>by have:=hh.low ho;omega).1⟩
  generalize call g (a++[]++c) h=r at hr hne hp |-;cases r with
  |fail=>grind
  |pan v h'=>exact absurd rfl hr
  |ok v h'=>
   obtain⟨S',β',u,rfl,hu,L,_⟩:=hp;refine⟨(kk _ _ _ L).1,(kk _ _ _ L).2,⟨_,rfl⟩,?_⟩;simp only[jG];refine⟨S',β',_,rfl,?_,qZ (Iu w) hold L (It ..) (fun b hb=>FZ w w' b hb) hw hh,fun sz hsz=>by cases hsz⟩;simp only[VR,bF]
   grind
 rcases args with _|⟨p,_|⟨f,_|⟨f2,r⟩⟩⟩
 ·exact absurd rfl hr
 ·exact absurd rfl hr
 ·grind
 ·exact absurd rfl hr
end Go.Proofs.YtbndmpiddinalacGreatDoor
namespace Go.Proofs.YtbndmpiddinalacGreatDoor
open Go Go.Av Go.RowKit
set_option maxRecDepth 100000
def Ux{α:Type}{f k:Nat}{x:α}{o:Option α}{y:α}(h:(bif Nat.beq f k then some x else o)=some y):(f=k/\x=y)\/o=some y:=by
 cases hb:Nat.beq f k with
 |true=>simp_all
 |false=>grind
def GF{α:Type}{f k:Nat}{x y:α}{o:Option α}{P:Prop}(h1:f=k->x=y->P)(h2:o=some y->P)(h:(bif Nat.beq f k then some x else o)=some y):P:=(Ux h).elim (fun h=>h1 h.1 h.2) h2
def GG{f k:Nat}{b:Bool}{P:Prop}(h1:f=k->P)(h2:b=true->P)(h:(bif Nat.beq f k then true else b)=true):P:=by
 cases hb:Nat.beq f k with
 |true=>simp_all
 |false=>grind
def Vv:GoodPg Tryz.prog pg where
 tok:=tok
 funcs:=Ho
 other:=by
  intro f E hE call hC args h S β w vs hr hg hw hh hv;have h0:other f=some E:=hE;unfold other at h0;revert h0
  repeat' refine GF ?_ ?_
  all_goals first
   |(intro h0;cases h0;done)
   |(rintro rfl rfl;exact⟨Sy call hC args h S β w vs hr hg hw hh hv,Vc⟩)
   |(rintro rfl rfl;exact⟨OO call hC args h S β w vs hr hg hw hh hv,Vc⟩)
   |(rintro rfl rfl;exact⟨Ot call args h S β w vs hr hg hw hh hv,Vc⟩)
   |(rintro rfl rfl;exact⟨Oq call args h S β w vs hr hg hw hh hv,Vc⟩)
   |(rintro rfl rfl;exact⟨Sz call args h S β w vs hr hg hw hh hv,Vc⟩)
   |(rintro rfl rfl;exact⟨SB call args h S β w vs hr hg hw hh hv,Vc⟩)
   |(rintro rfl rfl;exact⟨SF call args h S β w vs hr hg hw hh hv,Vc⟩)
   |(rintro rfl rfl;exact⟨SA call args h S β w vs hr hg hw hh hv,Vc⟩)
   |(rintro rfl rfl;exact⟨SC call args h S β w vs hr hg hw hh hv,Vc⟩)
   |(rintro rfl rfl;exact⟨SD call args h S β w vs hr hg hw hh hv,Vc⟩)
   |(rintro rfl rfl;exact⟨SE call args h S β w vs hr hg hw hh hv,Vc⟩)
 nw:=by
  intro f hf;have h0:pg.nw f=true:=hf;revert h0;show (bif _ then _ else _)=true->_
  repeat' refine GG ?_ ?_
  all_goals first
   |(intro h0;cases h0;done)
   |(rintro rfl;exact⟨_,rfl,fun call args=>E9 _ _ _ _⟩)
end Go.Proofs.YtbndmpiddinalacGreatDoor
namespace Go.Proofs.YtbndmpiddinalacGreatDoor
open Go Go.Av Go.ChangeShapes Go.WideShapes Go.ChangeAt Go.RowKit
set_option maxRecDepth 1000000
def Wb:ownKnob Tryz.prog.godebug=none:=Vc
def vO{H:Type}{enc:TypeId×Value->H}{P:Program}{w:World}{base:Nat}{sp:Nat->Bool}{held:Bool}{fuel:Nat}{t e:TypeId}{n:Nat}{cs:List Value}{zs:List (List UInt8)}{p:List MemPlace}(ht:P.underlying t=some (.array n e))(he:P.underlying e=some .string)(hce:P.cellsOf e=1)(hct:P.cellsOf t=n)(h:DataW.trod enc P w base sp held fuel t cs=some (.agg (zs.map fun z=>.lit (.string z)),p)):cs=zs.map fun z=>Value.string ⟨z.toArray⟩:=by
 cases fuel with
 |zero=>simp[DataW.trod]at h
 | succ fuel=>
  simp only[DataW.trod,ht,hce,hct,Nat.mul_one]at h;split at h
  ·rename_i hl;obtain⟨xs,hm,hx⟩:=YG.1 h;have hxs:xs.map (·.1)=zs.map fun z=>(DataW.lit (.string z):DataW H):=by
    have:=Ym Prod.fst hx
    simpa using this
   have hxl:xs.length=n:=by simpa using Lib.mapM_length hm
   have hzl:zs.length=n:=by
    have:=Ym List.length hxs
    simp at this;omega
   apply YY;intro i;by_cases hi:i<n
   ·obtain⟨b,hb,hf⟩:=Lib.mapM_at hm i i (by simp[hi]);obtain⟨z,hc,rfl,_⟩:=DataW.trod_string he hf;have h1:cs[i]? = some (.string z):=by
     have:=Ym (·[0]?) hc
     simpa [Zd,Y3]using this
    have h2:(xs.map (·.1))[i]? = some (DataW.lit (.string z.data.toList):DataW H):=by simp[hb]
    simp_all
   grind
  ·cases h
def NW{W:World}(hL:laidMetH Tryz.prog Rows.vmRefusesRow.laid W)(hS:W.ShapedOpen Tryz.prog):GOKw W:=by
 have h0:laidMet Tryz.prog Rows.vmRefusesRow.laid W:=hL;have h1:=h0.tail;have h2:=h1.tail;have ha:=Lib.tabIs_of_head (k:=.u8) (zs:=Lib.asciiSpaceTab) (g:=1) (t:=230) (e:=5) (n:=256) Vc Vc Vc Vc Vc Vc h1
 have hw:W.var? Tryz.prog "lading/lex.signs" = some (vj.map fun s=>Value.string ⟨s.toArray⟩).toArray:=by
  obtain⟨ps,⟨g',t',cs,fuel,p,q,hg',ht',hvar,hd,_,_⟩,_⟩:=h2
  obtain rfl:=Yu ((show Tryz.prog.globalNamed "lading/lex.signs" = some 0 by kernel_rfl).symm.trans hg')
  obtain rfl:=Yu ((show (Tryz.prog.globals[0]?).map (·.type)=some 190 by kernel_rfl).symm.trans ht');rw[hvar,<- vO (zs:=vj) (n:=14) (e:=9) Vc Tryz.underlying9 Vc Vc hd]
 have hvar:∀ {name:String} {g:Nat} {cs:Array Value},Tryz.prog.globalNamed name=some g->W.var? Tryz.prog name=some cs->∃t fr,W.heap[g]? = some (.cells cs t fr):=by
  intro name g cs hn hv;unfold World.var? at hv;rw[hn]at hv;simp only[Zx]at hv;split at hv
  ·grind
  ·cases hv
 refine⟨hvar Vc hw,hvar Vc ha,?_⟩;exact cell_of_shapedOpen_int (zero:=#[.int .i64 0]) (t:=3) hS (of_decide_eq_true Vc) Vc rfl Vc Vc Tryz.underlying3
mutual
def tJ:DataW Unit->List Value
 |.lit (.bool b)=>[.bool b]
 |.lit (.int k n)=>[.int k n]
 |.lit (.string s)=>[.string ⟨s.toArray⟩]
 |.agg ps=>GX ps
 |_=>[]
def GX:List (DataW Unit)->List Value
 |[]=>[]
 |d:: ds=>tJ d++GX ds
end
def CW:List Value:=[9,13,1,32,133,101,160,5760,5600,8192,8202,1,8232,8233,1,8239,8287,48,12288,12288,1].map (Value.int .u16)
noncomputable def low:Nat:=(World.holding Tryz.prog default ⟨#[],#[],[]⟩).heap.size
noncomputable def I6:List (Option (Array Value)):=[some (tJ Rows.laid_lading_lex_signs).toArray,some (tJ Rows.laid_strings_asciiSpace).toArray,some #[.pointer (some ⟨low,0,none⟩)]]
def yH:List Obj->List (Option (Array Value))->List Obj
 |.cells _ t fr:: os,some c:: cs=>.cells c t fr:: yH os cs
 |o:: os,_:: cs=>o:: yH os cs
 |os,[]=>os
 |[],_=>[]
noncomputable def qX(os:Os):World:=
 let w0:=World.holding Tryz.prog os ⟨#[.cells #[.slice (some ⟨low+1,0,none⟩) 7 7,.slice none 0 0,.int .i64 2] 257,.cells CW.toArray 260],#[],[]⟩
 { w0 with heap:=(yH w0.heap.toList I6).toArray }
def HH(os:Os)(args:Array Value):laidMet Tryz.prog Rows.vmRefusesRow.laid ((qX os).forCall (fun _ _=>0) ⟨#[],args,[]⟩).memory:=
 laidMet_of_run3 8 Vc Vc Vc
end Go.Proofs.YtbndmpiddinalacGreatDoor
namespace Go.Proofs.YtbndmpiddinalacGreatDoor
open Go Go.Av Go.Av.Ap Go.RowKit
set_option maxRecDepth 1000000
section
variable {H:Type} {enc:TypeId×Value->H} {W:World}
theorem gA:reachBytes=140737488351232:=rfl
theorem yN(N:Nat):Rd enc Tryz.prog W N 27 (fun l:List ba=>[strs l]) (fun l=>l.length<=8796093022208):=
 (gz (kQ Tryz.underlying9) Tryz.underlying27 (by kernel_rfl:_=1) Z6 (by kernel_rfl:_=16) (zQ fun _=>rfl)).map id (fun _=>rfl) (fun l h=>by grind [gA])
theorem KD(N:Nat):Rd enc Tryz.prog W N 25 (fun l:List Int=>[ints l]) (fun l=>l.length<=140737488355328):=
 (gz (jc Tryz.underlying3) Tryz.underlying25 (by kernel_rfl:_=1) Z6 (by kernel_rfl:_=8) (zQ fun _=>rfl)).map id (fun _=>rfl) (fun l h=>by grind [gA])
theorem Val.lim_mk{k n:Int}{ns:List ba}{vs:List Val}(h1:ns.length<=140737488355328)(h2:vs.length<=140737488355328)(h3:∀v∈vs,v.Lim):(Val.mk k n ns vs).Lim:=fun j=>match j with
 |0=>trivial
 |j+1=>⟨h1,h2,fun x hx=>h3 x hx j⟩
theorem Exp.lim_mk{o n:Int}{s m:ba}{ns:List ba}{es:List Exp}(h1:ns.length<=8796093022208)(h2:es.length<=140737488355328)(h3:∀v∈es,v.Lim):(Exp.mk o n s m ns es).Lim:=fun j=>match j with
 |0=>trivial
 |j+1=>⟨h1,h2,fun x hx=>h3 x hx j⟩
theorem Ty.lim_mk{k:Int}{fs:List fu}(h2:fs.length<=140737488355328)(h3:∀v∈fs,v.2.Lim):(Ty.mk k fs).Lim:=fun j=>match j with
 |0=>trivial
 |j+1=>⟨h2,fun x hx=>h3 x hx j⟩
theorem uT{N:Nat}(h:Rd enc Tryz.prog W N 30 (fun v:Val=>aa v.av) Val.Lim):Rd enc Tryz.prog W N 28 (fun l:List Val=>[vals l]) (fun l=>l.length<=140737488355328/\∀v∈l,v.Lim):=
 (gz h Tryz.underlying28 (by kernel_rfl:_=4) Z6 (by kernel_rfl:_=64) (ev:=Val.av) (gF fun v=>Z9)).map id (fun l=>by simp[vals,dX]) (fun l h=>⟨by grind [gA],h.2⟩)
theorem rd_val:∀N,Rd enc Tryz.prog W N 30 (fun v:Val=>aa v.av) Val.Lim
 |0=>.zero
 | N+1=>(ee Tryz.underlying30 Vc (aH (jc Tryz.underlying3) rfl (by kernel_rfl:_=1) (aH (jc Tryz.underlying3) rfl (by kernel_rfl:_=1) (aH (yN N) rfl (by kernel_rfl:_=1)
   (aH (uT (rd_val N)) rfl (by kernel_rfl:_=1) fC))))).map (fun x=>Val.mk x.1 x.2.1 x.2.2.1 x.2.2.2.1) (fun x=>Z9) (fun x h=>Val.lim_mk Z7 h.2.2.2.1.1 h.2.2.2.1.2)
theorem sY(N:Nat):Rd enc Tryz.prog W N 28 (fun l:List Val=>[vals l]) (fun l=>l.length<=140737488355328/\∀v∈l,v.Lim):=uT (rd_val N)
theorem uR{N:Nat}(h:Rd enc Tryz.prog W N 121 (fun v:Exp=>v.cells) Exp.Lim):Rd enc Tryz.prog W N 48 (fun l:List Exp=>[dn l]) (fun l=>l.length<=140737488355328/\∀v∈l,v.Lim):=
 (gz h Tryz.underlying48 (by kernel_rfl:_=6) Z6 (by kernel_rfl:_=96) (ev:=Exp.av) (gF fun v=>rfl)).map id (fun l=>by simp[dn,kH]) (fun l h=>⟨by grind [gA],h.2⟩)
theorem CY:∀N,Rd enc Tryz.prog W N 121 (fun v:Exp=>v.cells) Exp.Lim
 |0=>.zero
 | N+1=>(ee Tryz.underlying121 Vc (aH (jc Tryz.underlying3) rfl (by kernel_rfl:_=1) (aH (jc Tryz.underlying3) rfl (by kernel_rfl:_=1) (aH (kQ Tryz.underlying9) rfl (by kernel_rfl:_=1) (aH (kQ Tryz.underlying9) rfl (by kernel_rfl:_=1)
   (aH (yN N) rfl (by kernel_rfl:_=1) (aH (uR (CY N)) rfl (by kernel_rfl:_=1) fC))))))).map (fun x=>Exp.mk x.1 x.2.1 x.2.2.1 x.2.2.2.1 x.2.2.2.2.1 x.2.2.2.2.2.1) (fun x=>by grind [Exp.cells_eq,Exp.op,Exp.n,Exp.s,Exp.m,Exp.names,Exp.args]) (fun x h=>Exp.lim_mk h.2.2.2.2.1 h.2.2.2.2.2.1.1 h.2.2.2.2.2.1.2)
theorem yL(N:Nat):Rd enc Tryz.prog W N 48 (fun l:List Exp=>[dn l]) (fun l=>l.length<=140737488355328/\∀v∈l,v.Lim):=uR (CY N)
theorem uS{N:Nat}(h:Rd enc Tryz.prog W N 119 (fun v:Ty=>v.cells) Ty.Lim):Rd enc Tryz.prog W (N+1) 47 (fun l:List fu=>[ca l]) (fun l=>l.length<=140737488355328/\∀v∈l,v.2.Lim):=
 (gz ((ee Tryz.underlying143 Vc (aH (kQ Tryz.underlying9) rfl (by kernel_rfl:_=1) (aH h rfl (by kernel_rfl:_=2) fC))).map (fun x=>((x.1,x.2.1):fu)) (cells':=fun f=>aa (dZ f)) (Ok':=fun f=>f.2.Lim) (fun x=>by simp[Ty.cells_eq]) (fun x h=>h.2.1))
  Tryz.underlying47 (by kernel_rfl:_=3) Z6 (by kernel_rfl:_=48) (ev:=dZ) (gF fun v=>Z9)).map id (fun l=>by simp[ca,kJ]) (fun l h=>⟨by grind [gA],h.2⟩)
theorem Im:∀N,Rd enc Tryz.prog W N 119 (fun v:Ty=>v.cells) Ty.Lim
 |0=>.zero
 | N+1=>(ee Tryz.underlying119 Vc (aH (jc Tryz.underlying3) rfl (by kernel_rfl:_=1) (aH ((uS (Im N)).le (YW N)) rfl (by kernel_rfl:_=1) fC))).map (fun x=>Ty.mk x.1 x.2.1)
   (fun x=>by simp[Ty.cells_eq,Ty.kind,Ty.fields]) (fun x h=>Ty.lim_mk h.2.1.1 h.2.1.2)
theorem yM(N:Nat):Rd enc Tryz.prog W N 47 (fun l:List fu=>[ca l]) (fun l=>l.length<=140737488355328/\∀v∈l,v.2.Lim):=(uS (Im N)).le (YW N)
theorem OA(N:Nat):Rd enc Tryz.prog W (N+1) 123 (fun f:Fun=>aa f.av) Fun.Lim:=
 (ee Tryz.underlying123 Vc (aH (kQ Tryz.underlying9) rfl (by kernel_rfl:_=1) (aH (yK Tryz.underlying4) rfl (by kernel_rfl:_=1) (aH (yM N) rfl (by kernel_rfl:_=1) (aH (Im N) rfl (by kernel_rfl:_=2)
  (aH (jc Tryz.underlying3) rfl (by kernel_rfl:_=1) (aH (CY N) rfl (by kernel_rfl:_=6) fC))))))).map (fun x=>(⟨x.1,x.2.1,x.2.2.1,x.2.2.2.1,x.2.2.2.2.1,x.2.2.2.2.2.1⟩:Fun))
  (fun x=>by simp[Ty.cells_eq,Exp.cells_eq]) (fun x h=>⟨h.2.2.1.1,h.2.2.1.2,h.2.2.2.1,h.2.2.2.2.2.1⟩)
theorem KC(N:Nat):Rd enc Tryz.prog W N 49 (fun l:List Fun=>[iP l]) (fun l=>l.length<=140737488355328/\∀v∈l,v.Lim):=
 ((gz (OA N) Tryz.underlying49 (by kernel_rfl:_=12) Z6 (by kernel_rfl:_=184) (ev:=Fun.av) (gF fun v=>rfl)).map id (fun l=>by simp[iP]) (fun l h=>⟨by grind [gA],h.2⟩)).le (YW N)
theorem OB(N:Nat):Rd enc Tryz.prog W (N+1) 53 (fun m:Mod=>aa m.av) Mod.Lim:=
 (ee Tryz.underlying53 Vc (aH (kQ Tryz.underlying9) rfl (by kernel_rfl:_=1) (aH (yN N) rfl (by kernel_rfl:_=1) (aH (yM N) rfl (by kernel_rfl:_=1) (aH (yL N) rfl (by kernel_rfl:_=1)
  (aH (KC N) rfl (by kernel_rfl:_=1) (aH (yK Tryz.underlying4) rfl (by kernel_rfl:_=1)
  (aH ((ee Tryz.underlying51 Vc (aH (yM N) rfl (by kernel_rfl:_=1) (aH (yL N) rfl (by kernel_rfl:_=1) (aH (yL N) rfl (by kernel_rfl:_=1) fC)))).le (YW N)) rfl (by kernel_rfl:_=3) fC)))))))).map
  (fun x=>(⟨x.1,x.2.1,x.2.2.1,x.2.2.2.1,x.2.2.2.2.1,x.2.2.2.2.2.1,x.2.2.2.2.2.2.1.1,x.2.2.2.2.2.2.1.2.1,x.2.2.2.2.2.2.1.2.2.1⟩:Mod))
  (fun x=>Z8) (fun x h=>⟨Z7,h.2.2.1.1,h.2.2.1.2,h.2.2.2.1.1,h.2.2.2.1.2,h.2.2.2.2.1.1,h.2.2.2.2.1.2,h.2.2.2.2.2.2.1.1.1,h.2.2.2.2.2.2.1.1.2,h.2.2.2.2.2.2.1.2.1.1,h.2.2.2.2.2.2.1.2.1.2,h.2.2.2.2.2.2.1.2.2.1.1,h.2.2.2.2.2.2.1.2.2.1.2⟩)
theorem KE(N:Nat):Rd enc Tryz.prog W N 22 (fun l:List Mod=>[mods l]) (fun l=>l.length<=140737488355328/\∀v∈l,v.Lim):=
 ((gz (OB N) Tryz.underlying22 (by kernel_rfl:_=9) Z6 (by kernel_rfl:_=192) (ev:=Mod.av) (gF fun v=>rfl)).map id (fun l=>by simp[mods]) (fun l h=>⟨by grind [gA],h.2⟩)).le (YW N)
end
def ow(l:List Val):Prop:=l.length<=140737488355328/\∀v∈l,v.Lim
structure Proc.Lim (p:Proc):Prop where
 mods:p.mods.length<=140737488355328/\∀m∈p.mods,m.Lim
 state:p.state.length<=140737488355328/\∀w∈p.state,ow w.values
 frames:p.frames.length<=140737488355328/\∀f∈p.frames,ow f.locals/\ow f.stack
 world:p.world.length<=140737488355328
 value:p.out.value.Lim
 deeds:p.out.deeds.length<=140737488355328
 calls:p.out.calls.length<=140737488355328/\∀c∈p.out.calls,ow c.args
 ostate:p.out.state.length<=140737488355328/\∀w∈p.out.state,ow w.values
section
variable {H:Type} {enc:TypeId×Value->H} {W:World}
theorem Oz(N:Nat):Rd enc Tryz.prog W (N+1) 44 (fun f:Frm=>f.cells) (fun f=>ow f.locals/\ow f.stack):=
 (ee Tryz.underlying44 Vc (aH (kQ Tryz.underlying9) rfl (by kernel_rfl:_=1) (aH (kQ Tryz.underlying9) rfl (by kernel_rfl:_=1) (aH (jc Tryz.underlying3) rfl (by kernel_rfl:_=1)
  (aH (sY N) rfl (by kernel_rfl:_=1) (aH (sY N) rfl (by kernel_rfl:_=1) fC)))))).map (fun x=>(⟨x.1,x.2.1,x.2.2.1,x.2.2.2.1,x.2.2.2.2.1⟩:Frm)) (fun x=>rfl) (fun x h=>⟨h.2.2.2.1,h.2.2.2.2.1⟩)
theorem KB(N:Nat):Rd enc Tryz.prog W N 24 (fun l:List Frm=>[gT l]) (fun l=>l.length<=140737488355328/\∀f∈l,ow f.locals/\ow f.stack):=
 ((gz (Oz N) Tryz.underlying24 (by kernel_rfl:_=5) Z6 (by kernel_rfl:_=88) (ev:=Frm.av) (gF fun v=>rfl)).map id (fun l=>by simp[gT]) (fun l h=>⟨by grind [gA],h.2⟩)).le (YW N)
theorem OD(N:Nat):Rd enc Tryz.prog W (N+1) 58 (fun w:Vars=>aa w.av) (fun w=>ow w.values):=
 (ee Tryz.underlying58 Vc (aH (kQ Tryz.underlying9) rfl (by kernel_rfl:_=1) (aH (sY N) rfl (by kernel_rfl:_=1) fC))).map (fun x=>(⟨x.1,x.2.1⟩:Vars)) (fun x=>rfl) (fun x h=>h.2.1)
theorem A5(N:Nat):Rd enc Tryz.prog W N 23 (fun l:List Vars=>[bn l]) (fun l=>l.length<=140737488355328/\∀w∈l,ow w.values):=
 ((gz (OD N) Tryz.underlying23 (by kernel_rfl:_=2) Z6 (by kernel_rfl:_=40) (ev:=Vars.av) (gF fun v=>rfl)).map id (fun l=>by simp[bn]) (fun l h=>⟨by grind [gA],h.2⟩)).le (YW N)
theorem KA(N:Nat):Rd enc Tryz.prog W (N+1) 102 (fun d:Deed=>aa d.av) (fun _=>True):=
 (ee Tryz.underlying102 Vc (aH (jc Tryz.underlying3) rfl (by kernel_rfl:_=1) (aH (jc Tryz.underlying3) rfl (by kernel_rfl:_=1) (aH (jc Tryz.underlying3) rfl (by kernel_rfl:_=1) fC)))).map (fun x=>(⟨x.1,x.2.1,x.2.2.1⟩:Deed)) (fun x=>rfl) (fun x h=>trivial)
theorem Il(N:Nat):Rd enc Tryz.prog W N 31 (fun l:List Deed=>[deeds l]) (fun l=>l.length<=140737488355328):=
 ((gz (KA N) Tryz.underlying31 (by kernel_rfl:_=3) Z6 (by kernel_rfl:_=24) (ev:=Deed.av) (gF fun v=>rfl)).map id (fun l=>by simp[deeds]) (fun l h=>by grind [gA])).le (YW N)
theorem Kz(N:Nat):Rd enc Tryz.prog W (N+1) 65 (fun c:Ap.Call=>aa c.av) (fun c=>ow c.args):=
 (ee Tryz.underlying65 Vc (aH (kQ Tryz.underlying9) rfl (by kernel_rfl:_=1) (aH (kQ Tryz.underlying9) rfl (by kernel_rfl:_=1) (aH (sY N) rfl (by kernel_rfl:_=1) fC)))).map (fun x=>(⟨x.1,x.2.1,x.2.2.1⟩:Ap.Call)) (fun x=>rfl) (fun x h=>h.2.2.1)
theorem Ik(N:Nat):Rd enc Tryz.prog W N 32 (fun l:List Ap.Call=>[calls l]) (fun l=>l.length<=140737488355328/\∀c∈l,ow c.args):=
 ((gz (Kz N) Tryz.underlying32 (by kernel_rfl:_=3) Z6 (by kernel_rfl:_=56) (ev:=Ap.Call.av) (gF fun v=>rfl)).map id (fun l=>by simp[calls]) (fun l h=>⟨by grind [gA],h.2⟩)).le (YW N)
theorem OC(N:Nat):Rd enc Tryz.prog W (N+1) 34 (fun o:Out=>aa o.av) (fun o=>o.value.Lim/\o.deeds.length<=140737488355328/\(o.calls.length<=140737488355328/\∀c∈o.calls,ow c.args)/\(o.state.length<=140737488355328/\∀w∈o.state,ow w.values)):=
 (ee Tryz.underlying34 Vc (aH (jc Tryz.underlying26) rfl (by kernel_rfl:_=1) (aH (rd_val N) rfl (by kernel_rfl:_=4) (aH (Il N) rfl (by kernel_rfl:_=1)
  (aH (Ik N) rfl (by kernel_rfl:_=1) (aH (A5 N) rfl (by kernel_rfl:_=1) fC)))))).map (fun x=>(⟨x.1,x.2.1,x.2.2.1,x.2.2.2.1,x.2.2.2.2.1⟩:Out)) (fun x=>Z9) (fun x h=>⟨h.2.1,h.2.2.1,h.2.2.2.1,h.2.2.2.2.1⟩)
theorem KF(N:Nat):Rd enc Tryz.prog W (N+1) 36 (fun p:Proc=>p.cells) Proc.Lim:=
 (ee Tryz.underlying36 Vc (aH (KE N) rfl (by kernel_rfl:_=1) (aH (A5 N) rfl (by kernel_rfl:_=1) (aH (KB N) rfl (by kernel_rfl:_=1) (aH (KD N) rfl (by kernel_rfl:_=1)
  (aH ((OC N).le (YW N)) rfl (by kernel_rfl:_=8) (aH (yK Tryz.underlying4) rfl (by kernel_rfl:_=1) fC))))))).map (fun x=>(⟨x.1,x.2.1,x.2.2.1,x.2.2.2.1,x.2.2.2.2.1,x.2.2.2.2.2.1⟩:Proc)) (fun x=>rfl)
  (fun x h=>⟨h.1,h.2.1,h.2.2.1,h.2.2.2.1,h.2.2.2.2.1.1,h.2.2.2.2.1.2.1,h.2.2.2.2.1.2.2.1,h.2.2.2.2.1.2.2.2⟩)
end
end Go.Proofs.YtbndmpiddinalacGreatDoor
namespace Go.Proofs.YtbndmpiddinalacGreatDoor
open Go Go.Av Go.Av.Ap
set_option maxRecDepth 100000
noncomputable section
abbrev FW(G:(List AV->M AV)->List AV->M AV):Prop:=∀vs,ak G vs=G (ak G) vs
def lB{α β:Type}{m:M α}{f:α->M β}{fs:Nat->α->M β}(hf:cM f fs):d9 (ar m f) fun n=>ar m (fs n):=d9.bnd (gp _) hf
def lA{β:Type}{f:β->M AV}{fs:Nat->β->M AV}(h:cM f fs)(x:β):d9 (f x) fun n=>fs n x:=h x
def lZ{F:(List AV->M AV)->List AV->M AV}{Fs:Nat->(List AV->M AV)->List AV->M AV}(vs:List AV)(h1:∀a b,cM a b->∀v,d9 (F a v) fun n=>Fs n (b n) v)(h2:∀a b,cM a b->∀v,d9 (F a v) fun n=>F (b n) v)(h3:∀n a b,cM a b->∀v,d9 (Fs n a v) fun k=>Fs n (b k) v):d9 (ak F vs) fun n=>ak (Fs n) vs:=Fp h1 h2 h3 vs
def gL{G:(List AV->M AV)->List AV->M AV}(h:∀a b,cM a b->∀v,d9 (G a v) fun n=>G (b n) v:=by intros;repeat' first|with_reducible refine lB fun _=>?_|with_reducible refine wK ?_ ?_|with_reducible exact gp _|(with_reducible refine lA ?_ _;assumption)|with_reducible (refine lZ _ ?_ ?_ ?_<;>intros)|with_reducible refine ug ?_|with_reducible refine xk ?_|with_reducible (refine d9.bnd ?_ fun _=>?_)|refine lB fun _=>?_|refine wK ?_ ?_|(refine lA ?_ _;assumption)):FW G:=fun vs=>JS h vs
def cY{k:Nat}{fn:Go.Func}{g:Ann}{xs l:List AV}{m:M AV}(h1:pg.other k=none:=by exact rfl)(h2:pg.funcs k=some (fn,g):=by exact rfl)(h3:g.iso=true:=by exact rfl)(hl:fk aF xs=l:=by exact rfl)(h:cp (pg.cx (af pg) fn.ntmps g) ak fn (own k) l=m:=by kernel_rfl):af pg k xs=bj m:=by subst hl;exact (E7 hJ h1 h2 h3 xs).trans (Ym bj h)
def cZ{k:Nat}{fn:Go.Func}{g:Ann}{xs:List AV}{m:M AV}(h1:pg.other k=none:=by exact rfl)(h2:pg.funcs k=some (fn,g):=by exact rfl)(h3:g.iso=false:=by exact rfl)(h:cp (pg.cx (af pg) fn.ntmps g) ak fn (own k) xs=m:=by kernel_rfl):af pg k xs=m:=(BX hJ h1 h2 h3 xs).trans h
def S6(call:CC)(fx:bk AV)(a0:AV):M AV:=eh 36 (qc a0) fun a=>ar (call 19 [a]) fun b=>jE b 0 fun c=>jE b 1 fun d=>mb UnOp.not d fun e=>aC e (iC false 36 [] fun f=>fE 13 [] f fun g=>ao (.tup [.agg (m7 (aa g)),qi 1])) (dY c fun h=>cq 73 h 0 fun i=>cq 36 i 5 fun j=>eI 4 j fun k=>aC k (dY c fun l=>cq 73 l 0 fun m=>eI 36 m fun n=>fE 13 [] n fun o=>ao (.tup [.agg (m7 (aa o)),qi 7])) (ar (call 20 [c]) fun p=>dY c fun q=>cq 73 q 0 fun r=>eI 36 r fun s=>fE 13 [] s fun u=>ao (.tup [.agg (m7 (aa u)),qi 0])))
def C6(a0:AV):af pg 6 [a0]=bj (S6 (af pg) ak (cl aF a0)):=cY
def S12(call:CC)(fx:bk AV)(a0 a1 a2 a3 a4:AV):M AV:=ar (call 27 [a0]) fun a=>jE a 0 fun b=>jE a 1 fun c=>bZ .neq 26 c (qi 0) (iC false 36 [] fun d=>fE 13 [] d fun e=>ao (.tup [.agg (m7 (aa e)),c])) (ar (call 28 [a0]) fun f=>jE f 0 fun g=>jE f 1 fun h=>bZ .neq 26 h (qi 0) (iC false 36 [] fun i=>fE 13 [] i fun j=>ao (.tup [.agg (m7 (aa j)),h])) (dY b fun k=>cq 73 k 2 fun l=>eI 71 l fun m=>iC false 96 [(0,a1),(1,a2)] fun n=>ar (d8 T 71 m n true) fun o=>jE o 0 fun p=>jE o 1 fun q=>iQ 7 p fun r=>mb UnOp.not q fun s=>aC s (iC false 36 [] fun u=>fE 13 [] u fun v=>ao (.tup [.agg (m7 (aa v)),qi 4])) (cq 93 (qc r) 2 fun w=>aL 91 w 1 3 fun x=>ar (call 29 [a3,x]) fun y=>mb UnOp.not y fun z=>aC z (iC false 36 [] fun A=>fE 13 [] A fun B=>ao (.tup [.agg (m7 (aa B)),qi 13])) (ar (call 30 [a4]) fun C=>dY b fun D=>cq 73 D 0 fun E=>cq 36 E 1 fun F=>m6 23 F g fun G=>dY b fun H=>cq 73 H 0 fun I=>cq 36 I 3 fun J=>m6 25 J C fun K=>eh 93 (qc r) fun L=>ar (call 32 [a3]) fun N=>ar (call 31 [b,a1,L,N]) fun O=>dY b fun P=>cq 73 P 0 fun Q=>eI 36 Q fun R=>fE 13 [] R fun S=>ao (.tup [.agg (m7 (aa S)),qi 0])))))
def C12(a0 a1 a2 a3 a4:AV):af pg 12 [a0,a1,a2,a3,a4]=bj (S12 (af pg) ak (cl aF a0) (cl aF a1) (cl aF a2) (cl aF a3) (cl aF a4)):=cY
def L17_0(call:CC)(fx:bk AV)(a:RR)(b:List AV):M AV:=cG 28 (ab b 0) fun c=>aX .lss 3 (ab b 2) c fun d=>dJ d (cI .leq 3 (ab b 2) (ab b 1) fun e=>ao [e]) fun f=>aC f (eg 28 (ab b 0) (ab b 2) 30 fun g=>ar (call 36 [g,qi 100]) fun h=>aX .gtr 3 h (qi 100) fun i=>eH i (xr 28 (ab b 0) (ab b 2) fun j=>bA 30 j 2 27 fun k=>l8 27 k fun l=>cI .gtr 3 l (qi 20) fun m=>ao [m]) fun n=>aC n (ao (.bool false)) (aX .add 3 (ab b 2) (qi 1) fun o=>a [ab b 0,ab b 1,o])) (cG 28 (ab b 0) fun p=>aX .leq 3 p (ab b 1) fun q=>ao q)
def FL17_0(call:CC):FW (L17_0 call ak):=gL
def S17(call:CC)(fx:bk AV)(a0 a1:AV):M AV:=fx (L17_0 call fx) [a0,a1,qi 0]
def C17(a0 a1:AV):af pg 17 [a0,a1]=bj (S17 (af pg) ak (cl aF a0) (cl aF a1)):=cY
def K39_0(call:CC)(fx:bk AV)(a:List AV):M AV:=aL 113 (ab a 1) 0 3 fun b=>aX .eql 3 b (qi 14) fun c=>dJ c (bA 113 (ab a 1) 2 9 fun d=>SG false 96 [(0,ab a 2),(1,d)] fun e=>WN (ab a 0) fun f=>bA 44 f 0 9 fun g=>WN (ab a 0) fun h=>bA 44 h 1 9 fun i=>SG false 96 [(0,g),(1,i)] fun j=>cI .eql 96 e j fun k=>ao [k]) fun l=>ao l
def S39(call:CC)(fx:bk AV)(a0 a1 a2:AV):M AV:=dY a0 fun a=>cq 73 a 2 fun b=>eI 71 b fun c=>aL 44 (qc a1) 0 9 fun d=>aL 44 (qc a1) 1 9 fun e=>iC false 96 [(0,d),(1,e)] fun f=>ar (d8 T 71 c f true) fun g=>jE g 0 fun h=>jE g 1 fun i=>iQ 7 h fun j=>mb UnOp.not i fun k=>eH k (bA 44 (qc a1) 2 3 fun l=>cI .lss 3 l (qi 0) fun m=>ao [m]) fun n=>eH n (bA 44 (qc a1) 2 3 fun o=>BD 93 (qc j) 2 fun p=>bA 91 p 3 89 fun q=>l8 89 q fun r=>cI .geq 3 o r fun s=>ao [s]) fun u=>eH u (bA 44 (qc a1) 3 28 fun v=>BD 93 (qc j) 2 fun w=>bA 91 w 2 3 fun x=>ar (call 29 [v,x]) fun y=>l7 UnOp.not y fun z=>ao [z]) fun A=>aC A (ao (.bool false)) (aL 93 (qc j) 3 25 fun B=>aL 44 (qc a1) 2 3 fun C=>eg 25 B C 3 fun D=>bZ .eql 108 a2 AV.nilp (aX .geq 3 D (qi 0) fun E=>dJ E (bA 44 (qc a1) 4 28 fun F=>ar (call 29 [F,D]) fun G=>ao [G]) fun H=>ao H) (aL 44 (qc a1) 2 3 fun I=>aX .eql 3 I (qi 0) fun J=>eH J (bA 44 (qc a1) 4 28 fun K=>cI .sub 3 D (qi 1) fun L=>ar (call 29 [K,L]) fun N=>l7 UnOp.not N fun O=>ao [O]) fun P=>aC P (ao (.bool false)) (cq 93 (qc j) 2 fun Q=>aL 91 Q 3 89 fun R=>aL 44 (qc a1) 2 3 fun S=>aX .sub 3 S (qi 1) fun U=>eg 89 R U 113 fun V=>iQ 5 V fun W=>aL 113 (qc W) 3 9 fun X=>jn (K39_0 call fx) fun Y=>bZ .eql 9 X (.str []) (aL 44 (qc a1) 0 9 fun Z=>Y [a2,qc W,Z]) (Y [a2,qc W,X]))))
def C39(a0 a1 a2:AV):af pg 39 [a0,a1,a2]=S39 (af pg) ak a0 a1 a2:=cZ
def L70_0(call:CC)(fx:bk AV)(a:RR)(b:RR)(c:List AV):M AV:=bZ .lss 3 (ab c 8) (ab c 7) (eg 25 (ab c 6) (ab c 8) 3 fun d=>aL 91 (ab c 0) 3 89 fun e=>cG 89 e fun f=>bZ .eql 3 d f (ao (.tup [.sl [],.bool false])) (jJ 25 (ab c 1) d fun g=>eI 3 g fun h=>bZ .lss 3 h (qi 0) (jJ 25 (ab c 1) (ab c 3) fun i=>eI 3 i fun j=>aX .sub 3 j (ab c 4) fun k=>aX .add 3 k (ab c 5) fun l=>jJ 25 (ab c 1) d fun m=>m6 3 m l fun n=>qC 25 1 [(0,d)] fun o=>ar (bS (dH T 25 (ab c 2) o)) fun p=>aX .add 3 (ab c 8) (qi 1) fun q=>b [ab c 0,ab c 1,p,ab c 3,ab c 4,ab c 5,ab c 6,ab c 7,q]) (jJ 25 (ab c 1) d fun r=>eI 3 r fun s=>jJ 25 (ab c 1) (ab c 3) fun u=>eI 3 u fun v=>aX .sub 3 v (ab c 4) fun w=>aX .add 3 w (ab c 5) fun x=>bZ .neq 3 s x (ao (.tup [.sl [],.bool false])) (aX .add 3 (ab c 8) (qi 1) fun y=>b (Wi c [y]))))) (a (SN c))
def L70_1(call:CC)(fx:bk AV)(a:RR)(b:List AV):M AV:=cG 25 (ab b 2) fun c=>bZ .gtr 3 c (qi 0) (eg 25 (ab b 2) (qi 0) 3 fun d=>ar (bS (GW T 25 (ab b 2) (some (qi 1)))) fun e=>aL 91 (ab b 0) 3 89 fun f=>eg 89 f d 113 fun g=>ar (call 127 [g]) fun h=>jE h 0 fun i=>jE h 1 fun j=>jJ 25 (ab b 1) d fun k=>eI 3 k fun l=>aX .lss 3 l i fun m=>ar (aO m false 1 (bA 91 (ab b 0) 3 89 fun n=>xr 89 n d fun o=>bA 113 o 0 3 fun p=>cI .eql 3 p (qi 18) fun q=>ao [q])) fun r=>ar (aO (ab r 0) true 1 (xr 25 (ab b 1) d fun s=>Xj 3 s fun u=>cI .neq 3 u (qi 1) fun v=>ao [v])) fun w=>eH m (AZ (ab r 0) (ab w 0) (.bool false) fun x=>ao [x]) fun y=>aC y (ao (.tup [.sl [],.bool false])) (eh 91 (ab b 0) fun z=>ar (call 128 [z,d]) fun A=>cG 25 A fun B=>fx (L70_0 call fx a) [ab b 0,ab b 1,e,d,i,j,A,B,qi 0])) (ao (.tup [ab b 1,.bool true]))
def L70_2(call:CC)(fx:bk AV)(a:RR)(b:List AV):M AV:=bZ .lss 3 (ab b 4) (ab b 3) (eg 89 (ab b 2) (ab b 4) 113 fun c=>iQ 5 c fun d=>eh 91 (ab b 0) fun e=>eh 113 (qc d) fun f=>ar (call 126 [e,f]) fun g=>mb UnOp.not g fun h=>aC h (ao (.tup [.sl [],.bool false])) (jJ 25 (ab b 1) (ab b 4) fun i=>m6 3 i (qi (-1)) fun j=>aX .add 3 (ab b 4) (qi 1) fun k=>a (oF b [k]))) (jJ 25 (ab b 1) (qi 0) fun l=>m6 3 l (qi 0) fun m=>qC 25 1 [(0,qi 0)] fun n=>fx (L70_1 call fx) [ab b 0,ab b 1,n])
def FL70_0(call:CC)(a:RR):FW (L70_0 call ak a):=gL
def FL70_1(call:CC):FW (L70_1 call ak):=gL
def FL70_2(call:CC):FW (L70_2 call ak):=gL
def S70(call:CC)(fx:bk AV)(a0:AV):M AV:=aL 91 (qc a0) 0 9 fun a=>ar (call 119 [a]) fun b=>mb UnOp.not b fun c=>eH c (bA 91 (qc a0) 1 3 fun d=>cI .lss 3 d (qi 0) fun e=>ao [e]) fun f=>eH f (bA 91 (qc a0) 1 3 fun g=>cI .gtr 3 g (qi 6) fun h=>ao [h]) fun i=>eH i (bA 91 (qc a0) 2 3 fun j=>bA 91 (qc a0) 1 3 fun k=>cI .lss 3 j k fun l=>ao [l]) fun m=>eH m (bA 91 (qc a0) 3 89 fun n=>l8 89 n fun o=>cI .eql 3 o (qi 0) fun p=>ao [p]) fun q=>aC q (ao (.tup [.sl [],.bool false])) (aL 91 (qc a0) 3 89 fun r=>cG 89 r fun s=>ar (p9 T 25 s s) fun u=>aL 91 (qc a0) 3 89 fun v=>cG 89 v fun w=>fx (L70_2 call fx) [qc a0,u,v,w,qi 0])
def C70(a0:AV):af pg 70 [a0]=bj (S70 (af pg) ak (cl aF a0)):=cY
def L84_0(call:CC)(fx:bk AV)(a:RR)(b:List AV):M AV:=bZ .lss 3 (ab b 5) (ab b 4) (eg 47 (ab b 3) (ab b 5) 143 fun c=>iQ 3 c fun d=>aL 143 (qc d) 0 9 fun e=>eg 28 (ab b 1) (ab b 5) 30 fun f=>ar (dy (call 145 [.agg [ab b 10,ab b 11,ab b 12],e,f])) fun g=>fE 3 [] g fun h=>aX .add 3 (ab b 5) (qi 1) fun i=>a (wb b [i,ab b 6,ab b 7,ab b 8,ab b 9,ab (aa h) 0,ab (aa h) 1,ab (aa h) 2])) (dY (ab b 0) fun j=>cq 166 j 3 fun k=>eI 3 k fun l=>aX .add 3 l (qi 1) fun m=>dY (ab b 0) fun n=>cq 166 n 3 fun o=>m6 3 o m fun p=>aL 123 (ab b 2) 5 121 fun q=>ar (call 133 [ab b 0,.agg [ab b 10,ab b 11,ab b 12],q]) fun r=>iQ 4 r fun s=>dY (ab b 0) fun u=>cq 166 u 3 fun v=>eI 3 v fun w=>aX .sub 3 w (qi 1) fun x=>dY (ab b 0) fun y=>cq 166 y 3 fun z=>m6 3 z x fun A=>eh 30 (qc s) fun B=>fE 4 [] B fun C=>ao (.agg (gy (aa C))))
def K84_0(call:CC)(fx:bk AV)(a:List AV):M AV:=iC false 212 [(0,ab a 1)] fun b=>fE 3 [] b fun c=>aL 123 (ab a 3) 2 47 fun d=>cG 47 d fun e=>fx (L84_0 call fx) [ab a 0,ab a 2,ab a 3,d,e,qi 0,ab a 4,ab a 5,ab a 6,ab a 7,ab (aa c) 0,ab (aa c) 1,ab (aa c) 2]
def FL84_0(call:CC):FW (L84_0 call ak):=gL
def S84(call:CC)(fx:bk AV)(a0 a1 a2 a3:AV):M AV:=dY a0 fun a=>cq 166 a 3 fun b=>eI 3 b fun c=>aX .lss 3 c (qi 60) fun d=>ar (call 144 [d,qi 6]) fun e=>jn (K84_0 call fx) fun f=>aL 123 (qc a2) 1 4 fun g=>aC g (dY a0 fun h=>cq 166 h 4 fun i=>cq 34 i 3 fun j=>eI 32 j fun k=>dY a0 fun l=>cq 166 l 0 fun m=>eI 22 m fun n=>jJ 22 n a1 fun o=>aL 53 o 0 9 fun p=>aL 123 (qc a2) 0 9 fun q=>ar (call 32 [a3]) fun r=>iC false 65 [(0,p),(1,q),(2,r)] fun s=>qC 32 1 [(0,s)] fun u=>ar (appH T 32 false k u) fun v=>dY a0 fun w=>cq 166 w 4 fun x=>cq 34 x 3 fun y=>m6 32 y v fun z=>f [a0,a1,a3,qc a2,qi 0,qi 0,.sl [],.sl []]) (f [a0,a1,a3,qc a2,qi 0,qi 0,.sl [],.sl []])
def C84(a0 a1 a2 a3:AV):af pg 84 [a0,a1,a2,a3]=S84 (af pg) ak a0 a1 a2 a3:=cZ
def S87(call:CC)(fx:bk AV)(a0:AV):M AV:=eh 121 (qc a0) fun a=>ar (call 148 [a,qi 120]) fun b=>aX .leq 3 b (qi 120) fun c=>dJ c (Lr 121 (qc a0) fun d=>ar (call 149 [d]) fun e=>ao [e]) fun f=>ao f
def C87(a0:AV):af pg 87 [a0]=bj (S87 (af pg) ak (cl aF a0)):=cY
def S104(call:CC)(fx:bk AV)(a0 a1:AV):M AV:=aL 121 (qc a0) 0 3 fun a=>aL 121 (qc a1) 0 3 fun b=>aX .eql 3 a b fun c=>dJ c (bA 121 (qc a0) 1 3 fun d=>bA 121 (qc a1) 1 3 fun e=>cI .eql 3 d e fun f=>ao [f]) fun g=>dJ g (bA 121 (qc a0) 2 9 fun h=>bA 121 (qc a1) 2 9 fun i=>cI .eql 9 h i fun j=>ao [j]) fun k=>dJ k (bA 121 (qc a0) 3 9 fun l=>bA 121 (qc a1) 3 9 fun m=>cI .eql 9 l m fun n=>ao [n]) fun o=>dJ o (bA 121 (qc a0) 4 27 fun p=>bA 121 (qc a1) 4 27 fun q=>ar (call 48 [p,q]) fun r=>ao [r]) fun s=>dJ s (bA 121 (qc a0) 5 48 fun u=>bA 121 (qc a1) 5 48 fun v=>ar (call 47 [u,v]) fun w=>ao [w]) fun x=>ao x
def C104(a0 a1:AV):af pg 104 [a0,a1]=bj (S104 (af pg) ak (cl aF a0) (cl aF a1)):=cY
def L120_0(call:CC)(fx:bk AV)(a:RR)(b:List AV):M AV:=bZ .lss 3 (ab b 5) (ab b 4) (eg 47 (ab b 3) (ab b 5) 143 fun c=>iQ 3 c fun d=>aL 143 (qc d) 0 9 fun e=>ar (d8 T 138 (ab b 2) e false) fun f=>eH f (bA 143 (qc d) 0 9 fun g=>ar (call 119 [g]) fun h=>l7 UnOp.not h fun i=>ao [i]) fun j=>eH j (bA 143 (qc d) 1 119 fun k=>ar (call 121 [k]) fun l=>l7 UnOp.not l fun m=>ao [m]) fun n=>aC n (ao (.bool false)) (aL 143 (qc d) 0 9 fun o=>ar (oE T 138 (ab b 2) o (.bool true)) fun p=>aX .add 3 (ab b 5) (qi 1) fun q=>a (wb b [q]))) (cG 47 (ab b 0) fun r=>aX .leq 3 r (ab b 1) fun s=>ao s)
def FL120_0(call:CC):FW (L120_0 call ak):=gL
def S120(call:CC)(fx:bk AV)(a0 a1:AV):M AV:=ar ga fun a=>cG 47 a0 fun b=>fx (L120_0 call fx) [a0,a1,a,a0,b,qi 0]
def C120(a0 a1:AV):af pg 120 [a0,a1]=bj (S120 (af pg) ak (cl aF a0) (cl aF a1)):=cY
def S122(call:CC)(fx:bk AV)(a0:AV):M AV:=eh 121 (qc a0) fun a=>ar (call 159 [a,qi 12]) fun b=>ao b
def C122(a0:AV):af pg 122 [a0]=bj (S122 (af pg) ak (cl aF a0)):=cY
def S124(call:CC)(fx:bk AV)(a0 a1 a2:AV):M AV:=aL 121 (qc a1) 0 3 fun a=>bZ .eql 3 a (qi 0) (aL 121 (qc a1) 1 3 fun b=>iC false 113 [(0,qi 0),(1,b)] fun c=>ar (call 125 [a0,c]) fun d=>ao (.tup [])) (bZ .eql 3 a (qi 1) (aL 121 (qc a1) 1 3 fun e=>iC false 113 [(0,qi 1),(1,e)] fun f=>ar (call 125 [a0,f]) fun g=>ao (.tup [])) (bZ .eql 3 a (qi 2) (aL 121 (qc a1) 2 9 fun h=>ar (call 161 [a2,h]) fun i=>iC false 113 [(0,qi 2),(1,i)] fun j=>ar (call 125 [a0,j]) fun k=>ao (.tup [])) (bZ .eql 3 a (qi 17) (aL 121 (qc a1) 2 9 fun l=>ar (call 162 [a0,l]) fun m=>iC false 113 [(0,qi 16),(1,m)] fun n=>ar (call 125 [a0,n]) fun o=>ao (.tup [])) (bZ .eql 3 a (qi 8) (aL 121 (qc a1) 5 48 fun p=>eg 48 p (qi 0) 121 fun q=>ar (call 124 [a0,q,a2]) fun r=>aL 121 (qc a1) 5 48 fun s=>eg 48 s (qi 1) 121 fun u=>ar (cV (zN call) (.fn (Fn.func 160) [] []) [qi 0]) fun v=>ar (call 163 [a0,u,v,a2]) fun w=>ao (.tup [])) (bZ .eql 3 a (qi 9) (aL 121 (qc a1) 5 48 fun x=>eg 48 x (qi 0) 121 fun y=>ar (call 124 [a0,y,a2]) fun z=>aL 121 (qc a1) 5 48 fun A=>eg 48 A (qi 1) 121 fun B=>ar (cV (zN call) (.fn (Fn.func 160) [] []) [qi 1]) fun C=>ar (call 163 [a0,C,B,a2]) fun D=>ao (.tup [])) (bZ .eql 3 a (qi 11) (aL 121 (qc a1) 5 48 fun E=>eg 48 E (qi 0) 121 fun F=>ar (call 124 [a0,F,a2]) fun G=>aL 121 (qc a1) 5 48 fun H=>eg 48 H (qi 1) 121 fun I=>aL 121 (qc a1) 5 48 fun J=>eg 48 J (qi 2) 121 fun K=>ar (call 163 [a0,I,K,a2]) fun L=>ao (.tup [])) (bZ .eql 3 a (qi 12) (aL 121 (qc a1) 5 48 fun N=>eg 48 N (qi 0) 121 fun O=>ar (call 124 [a0,O,a2]) fun P=>cG 27 a2 fun Q=>iC false 113 [(0,qi 3),(1,Q)] fun R=>ar (call 125 [a0,R]) fun S=>dY a0 fun U=>cq 202 U 2 fun V=>eI 3 V fun W=>cG 27 a2 fun X=>aX .add 3 X (qi 1) fun Y=>ar (bS (jY true [W,Y])) fun Z=>dY a0 fun u0=>cq 202 u0 2 fun u1=>m6 3 u1 Z fun u2=>aL 121 (qc a1) 5 48 fun u3=>eg 48 u3 (qi 1) 121 fun u4=>aL 121 (qc a1) 2 9 fun u5=>qC 27 1 [(0,u5)] fun u6=>ar (call 97 [a2]) fun u7=>ar (bS (dH T 27 u7 u6)) fun u8=>ar (call 124 [a0,u4,u8]) fun u9=>ao (.tup [])) (aL 121 (qc a1) 5 48 fun v0=>ar (call 164 [a0,v0,a2]) fun v2=>eh 121 (qc a1) fun v3=>ar (call 165 [a0,v3]) fun v7=>ar (call 125 [a0,v7]) fun v8=>ao (.tup [])))))))))
def C124(a0 a1 a2:AV):af pg 124 [a0,a1,a2]=S124 (af pg) ak a0 a1 a2:=cZ
def S125(call:CC)(fx:bk AV)(a0 a1:AV):M AV:=dY a0 fun a=>cq 202 a 1 fun b=>eI 89 b fun c=>eh 113 (qc a1) fun d=>qC 89 1 [(0,d)] fun e=>ar (appH T 89 false c e) fun f=>dY a0 fun g=>cq 202 g 1 fun h=>m6 89 h f fun i=>dY a0 fun j=>cq 202 j 1 fun k=>eI 89 k fun l=>cG 89 l fun m=>aX .sub 3 m (qi 1) fun n=>ao n
def C125(a0 a1:AV):af pg 125 [a0,a1]=S125 (af pg) ak a0 a1:=cZ
def S144(call:CC)(fx:bk AV)(a0 a1:AV):M AV:=mb UnOp.not a0 fun a=>aC a (ar (bS (l5 T 26 a1)) fun b=>ar (Kt b) fun c=>ao (.tup [])) (ao (.tup []))
def C144(a0 a1:AV):af pg 144 [a0,a1]=bj (S144 (af pg) ak (cl aF a0) (cl aF a1)):=cY
def S162(call:CC)(fx:bk AV)(a0 a1:AV):M AV:=dY a0 fun a=>cq 202 a 0 fun b=>eI 47 b fun c=>ar (call 184 [c,.fn (Fn.func 185) [] [qc a1]]) fun d=>ao d
def C162(a0 a1:AV):af pg 162 [a0,a1]=S162 (af pg) ak a0 a1:=cZ
def S171(call:CC)(fx:bk AV)(a0 a1 a2:AV):M AV:=eh 212 (qc a1) fun a=>eh 121 (qc a2) fun b=>ar (call 133 [a0,a,b]) fun c=>iQ 4 c fun d=>aL 30 (qc d) 0 3 fun e=>aX .eql 3 e (qi 1) fun f=>ar (call 144 [f,qi 13]) fun g=>aL 30 (qc d) 1 3 fun h=>aX .eql 3 h (qi 1) fun i=>ao i
def C171(a0 a1 a2:AV):af pg 171 [a0,a1,a2]=S171 (af pg) ak a0 a1 a2:=cZ
def S4(call:CC)(fx:bk AV):M AV:=ar (call 11 [.str [109,111,100,117,108,101,32,109,32,59,32,118,97,114,32,110,32,105,110,116,32,61,32,53,32,59,32,112,117,98,32,102,110,32,102,32,40,32,107,32,105,110,116,32,41,32,105,110,116,32,33,32,110,101,116,32,61,32,115,101,116,32,110,32,103,101,116,32,110,32,43,32,110,101,116,32,40,32,107,32,41,32,59]]) fun v0=>jE v0 0 fun v1=>jE v0 1 fun v2=>jE v0 2 fun v3=>iQ 9 v1 fun v4=>eh 53 (qc v4) fun v5=>qC 22 1 [(0,v5)] fun v6=>ar (call 10 [qi 2]) fun v7=>qC 28 1 [(0,v7)] fun v8=>qC 25 2 [(0,qi 7),(1,qi 8)] fun v9=>ar (call 12 [v6,.str [109],.str [102],v8,v9]) fun v10=>jE v10 0 fun v11=>jE v10 1 fun v12=>iQ 13 v11 fun v13=>eh 36 (qc v13) fun v14=>ar (call 7 [v14,qi 6]) fun v15=>jE v15 0 fun v16=>jE v15 1 fun v17=>iQ 13 v16 fun v18=>eh 36 (qc v13) fun v19=>ar (call 7 [v19,qi 3]) fun v20=>jE v20 0 fun v21=>jE v20 1 fun v22=>iQ 13 v21 fun v23=>eh 36 (qc v18) fun v24=>ar (call 6 [v24]) fun v25=>jE v25 0 fun v26=>jE v25 1 fun v27=>iQ 13 v26 fun v28=>ar (call 12 [v6,.str [109],.str [102],.sl [],.sl []]) fun v29=>jE v29 0 fun v30=>jE v29 1 fun v31=>iQ 13 v30 fun v32=>ar (call 12 [v6,.str [109],.str [103],.sl [],.sl []]) fun v33=>jE v33 0 fun v34=>jE v33 1 fun v35=>iQ 13 v34 fun v36=>aL 36 (qc v23) 2 24 fun v38=>cG 24 v38 fun v39=>aX .neq 3 v39 (qi 1) fun v40=>eH v40 (bA 36 (qc v23) 1 23 fun v42=>l8 23 v42 fun v43=>cI .neq 3 v43 (qi 1) fun v44=>ao [v44]) fun v46=>aC v46 (ao (.bool false)) (aL 36 (qc v23) 1 23 fun v48=>jJ 23 v48 (qi 0) fun v49=>aL 58 v49 1 28 fun v51=>cG 28 v51 fun v52=>bZ .neq 3 v52 (qi 1) (ao (.bool false)) (aX .eql 26 v3 (qi 0) fun v54=>dJ v54 (cI .eql 26 v12 (qi 0) fun v55=>ao [v55]) fun v57=>dJ v57 (cI .eql 26 v17 (qi 0) fun v58=>ao [v58]) fun v60=>dJ v60 (cI .eql 26 v22 (qi 16) fun v61=>ao [v61]) fun v63=>dJ v63 (cI .eql 26 v27 (qi 7) fun v64=>ao [v64]) fun v66=>dJ v66 (cI .eql 26 v31 (qi 13) fun v67=>ao [v67]) fun v69=>dJ v69 (cI .eql 26 v35 (qi 4) fun v70=>ao [v70]) fun v72=>dJ v72 (bA 36 (qc v18) 5 4 fun v74=>ao [v74]) fun v76=>dJ v76 (bA 36 (qc v18) 4 34 fun v78=>Tv 25 2 [(0,qi 7),(1,qi 8)] fun v79=>ar (dy (call 14 [v6,.str [109],.str [102],v8,v79,qi 100])) fun v80=>ar (dy (call 13 [v78,v80])) fun v81=>ao [v81]) fun v83=>cq 36 (qc v18) 4 fun v84=>cq 34 v84 1 fun v85=>aL 30 v85 1 3 fun v87=>aX .eql 3 v87 (qi 12) fun v88=>dJ v88 (bA 36 (qc v23) 2 24 fun v90=>xr 24 v90 (qi 0) fun v91=>bA 44 v91 2 3 fun v93=>cI .eql 3 v93 (qi 3) fun v94=>ao [v94]) fun v96=>dJ v96 (bA 36 (qc v23) 2 24 fun v98=>xr 24 v98 (qi 0) fun v99=>bA 44 v99 4 28 fun v101=>ar (dy (call 10 [qi 5])) fun v102=>ar (dy (call 10 [qi 7])) fun v103=>Tv 28 2 [(0,v102),(1,v103)] fun v104=>ar (dy (call 15 [v101,v104])) fun v105=>ao [v105]) fun v107=>dJ v107 (bA 36 (qc v23) 3 25 fun v109=>Tv 25 1 [(0,qi 8)] fun v110=>ar (dy (call 16 [v109,v110])) fun v111=>ao [v111]) fun v113=>dJ v113 (bA 36 (qc v23) 1 23 fun v115=>xr 23 v115 (qi 0) fun v116=>bA 58 v116 1 28 fun v118=>xr 28 v118 (qi 0) fun v119=>bA 30 v119 1 3 fun v121=>cI .eql 3 v121 (qi 5) fun v122=>ao [v122]) fun v124=>dJ v83 (ao [v124]) fun v126=>dJ v126 (Lr 36 (qc v13) fun v127=>ar (call 8 [v127]) fun v128=>ao [v128]) fun v130=>dJ v130 (Lr 36 (qc v18) fun v131=>ar (call 8 [v131]) fun v132=>ao [v132]) fun v134=>dJ v134 (SG false 36 [] fun v135=>ar (call 8 [v135]) fun v136=>l7 UnOp.not v136 fun v137=>ao [v137]) fun v139=>ao v139))
def C4:af pg 4 []=bj (S4 (af pg) ak):=cY
def K19_0(call:CC)(fx:bk AV)(a:RR)(b:List AV):M AV:=eh 44 (ab b 2) fun c=>ar (call 39 [ab b 1,c,ab b 3]) fun d=>mb UnOp.not d fun e=>aC e (ao (.tup [AV.nilp,.bool false])) (aX .add 3 (ab b 6) (qi 1) fun f=>a [ab b 0,ab b 1,ab b 4,ab b 5,f])
def L19_0(call:CC)(fx:bk AV)(a:RR)(b:List AV):M AV:=bZ .lss 3 (ab b 4) (ab b 3) (eg 24 (ab b 2) (ab b 4) 44 fun c=>iQ 5 c fun d=>jn (K19_0 call fx a) fun e=>aX .add 3 (ab b 4) (qi 1) fun f=>aL 36 (ab b 0) 2 24 fun g=>cG 24 g fun h=>bZ .lss 3 f h (aL 36 (ab b 0) 2 24 fun i=>aX .add 3 (ab b 4) (qi 1) fun j=>jJ 24 i j fun k=>e [ab b 0,ab b 1,qc d,k,ab b 2,ab b 3,ab b 4]) (e [ab b 0,ab b 1,qc d,AV.nilp,ab b 2,ab b 3,ab b 4])) (eh 36 (ab b 0) fun l=>ar (call 40 [l]) fun m=>dY (ab b 1) fun n=>cq 73 n 0 fun o=>m6 36 o m fun p=>ao (.tup [ab b 1,.bool true]))
def FL19_0(call:CC):FW (L19_0 call ak):=gL
def S19(call:CC)(fx:bk AV)(a0:AV):M AV:=aL 36 (qc a0) 0 22 fun a=>ar (call 27 [a]) fun b=>jE b 0 fun c=>jE b 1 fun d=>aX .neq 26 d (qi 0) fun e=>eH e (bA 36 (qc a0) 0 22 fun f=>bA 36 (qc a0) 1 23 fun g=>ar (call 38 [f,g]) fun h=>l7 UnOp.not h fun i=>ao [i]) fun j=>aC j (ao (.tup [AV.nilp,.bool false])) (cq 36 (qc a0) 4 fun k=>aL 34 k 1 30 fun l=>iQ 4 l fun m=>cq 36 (qc a0) 4 fun n=>aL 34 n 0 26 fun o=>aX .eql 26 o (qi 0) fun p=>dJ p (bA 30 (qc m) 0 3 fun q=>cI .eql 3 q (qi 0) fun r=>ao [r]) fun s=>dJ s (bA 30 (qc m) 1 3 fun u=>cI .eql 3 u (qi 0) fun v=>ao [v]) fun w=>dJ w (bA 30 (qc m) 2 27 fun x=>l8 27 x fun y=>bA 30 (qc m) 3 28 fun z=>l8 28 z fun A=>cI .add 3 y A fun B=>BD 36 (qc a0) 4 fun C=>bA 34 C 4 23 fun D=>l8 23 D fun E=>cI .add 3 B E fun F=>cI .eql 3 F (qi 0) fun G=>ao [G]) fun H=>aL 36 (qc a0) 5 4 fun I=>aL 36 (qc a0) 2 24 fun J=>cG 24 J fun K=>aX .eql 3 K (qi 0) fun L=>aX .neq 4 I L fun N=>eH N (bA 36 (qc a0) 2 24 fun O=>l8 24 O fun P=>cI .gtr 3 P (qi 60) fun Q=>ao [Q]) fun R=>ar (aO R false 1 (bA 36 (qc a0) 5 4 fun S=>l7 UnOp.not S fun U=>ao [U])) fun V=>ar (aO (ab V 0) true 1 (l7 UnOp.not H fun W=>ao [W])) fun X=>eH R (AZ (ab V 0) (ab X 0) (.bool false) fun Y=>ao [Y]) fun Z=>aC Z (ao (.tup [AV.nilp,.bool false])) (aL 36 (qc a0) 2 24 fun u0=>cG 24 u0 fun u1=>fx (L19_0 call fx) [qc a0,c,u0,u1,qi 0]))
def C19(a0:AV):af pg 19 [a0]=S19 (af pg) ak a0:=cZ
def L27_0(call:CC)(fx:bk AV)(a:RR)(b:RR)(c:List AV):M AV:=bZ .lss 3 (ab c 9) (ab c 8) (eg 154 (ab c 7) (ab c 9) 91 fun d=>iQ 4 d fun e=>eh 91 (qc e) fun f=>ar (call 70 [f]) fun g=>jE g 0 fun h=>jE g 1 fun i=>mb UnOp.not i fun j=>aC j (ao (.tup [AV.nilp,qi 13])) (dY (ab c 1) fun k=>cq 73 k 2 fun l=>eI 71 l fun m=>aL 53 (ab c 3) 0 9 fun n=>aL 91 (qc e) 0 9 fun o=>iC false 96 [(0,n),(1,o)] fun p=>aL 53 (ab c 3) 4 49 fun q=>jJ 49 q (ab c 9) fun r=>aL 123 r 1 4 fun s=>eh 91 (qc e) fun u=>iC false 93 [(0,ab c 2),(1,s),(2,u),(3,h)] fun v=>ar (oE T 71 m p v) fun w=>aX .add 3 (ab c 9) (qi 1) fun x=>b (Wj c [x]))) (aX .add 3 (ab c 6) (qi 1) fun y=>a [ab c 0,ab c 1,ab c 4,ab c 5,y])
def L27_1(call:CC)(fx:bk AV)(a:RR)(b:List AV):M AV:=bZ .lss 3 (ab b 4) (ab b 3) (eg 22 (ab b 2) (ab b 4) 53 fun c=>iQ 9 c fun d=>eh 53 (qc d) fun e=>ar (call 69 [e]) fun f=>cG 154 f fun g=>fx (L27_0 call fx a) [ab b 0,ab b 1,ab b 4,qc d,ab b 2,ab b 3,ab b 4,f,g,qi 0]) (ar (call 71 [ab b 0]) fun h=>dY (ab b 1) fun i=>cq 73 i 0 fun j=>cq 36 j 0 fun k=>m6 22 k h fun l=>ao (.tup [ab b 1,qi 0]))
def L27_2(call:CC)(fx:bk AV)(a:RR)(b:List AV):M AV:=bZ .lss 3 (ab b 4) (ab b 3) (eg 22 (ab b 2) (ab b 4) 53 fun c=>iQ 9 c fun d=>eh 53 (qc d) fun e=>ar (call 68 [e]) fun f=>mb UnOp.not f fun g=>aC g (ao (.tup [AV.nilp,qi 1])) (aX .add 3 (ab b 4) (qi 1) fun h=>a (oF b [h]))) (cG 22 (ab b 0) fun i=>fx (L27_1 call fx) [ab b 0,ab b 1,ab b 0,i,qi 0])
def L27_3(call:CC)(fx:bk AV)(a:RR)(b:List AV):M AV:=bZ .lss 3 (ab b 4) (ab b 3) (eg 22 (ab b 2) (ab b 4) 53 fun c=>iQ 9 c fun d=>dY (ab b 1) fun e=>cq 73 e 1 fun f=>eI 70 f fun g=>aL 53 (qc d) 0 9 fun h=>ar (d8 T 70 g h true) fun i=>jE i 0 fun j=>jE i 1 fun k=>aC k (ao (.tup [AV.nilp,qi 5])) (dY (ab b 1) fun l=>cq 73 l 1 fun m=>eI 70 m fun n=>aL 53 (qc d) 0 9 fun o=>ar (oE T 70 n o (ab b 4)) fun p=>aX .add 3 (ab b 4) (qi 1) fun q=>a (oF b [q]))) (cG 22 (ab b 0) fun r=>fx (L27_2 call fx) [ab b 0,ab b 1,ab b 0,r,qi 0])
def FL27_0(call:CC)(a:RR):FW (L27_0 call ak a):=gL
def FL27_1(call:CC):FW (L27_1 call ak):=gL
def FL27_2(call:CC):FW (L27_2 call ak):=gL
def FL27_3(call:CC):FW (L27_3 call ak):=gL
def S27(call:CC)(fx:bk AV)(a0:AV):M AV:=cG 22 a0 fun a=>bZ .gtr 3 a (qi 20) (ao (.tup [AV.nilp,qi 6])) (ar ga fun b=>ar ga fun c=>iC true 73 [(1,b),(2,c)] fun d=>ar (newH (aa d)) fun e=>cG 22 a0 fun f=>fx (L27_3 call fx) [a0,e,a0,f,qi 0])
def C27(a0:AV):af pg 27 [a0]=S27 (af pg) ak a0:=cZ
def S29(call:CC)(fx:bk AV)(a0 a1:AV):M AV:=cG 28 a0 fun a=>aX .eql 3 a a1 fun b=>dJ b (ar (call 74 [a0,.fn (Fn.func 75) [] []]) fun c=>l7 UnOp.not c fun d=>ao [d]) fun e=>ao e
def C29(a0 a1:AV):af pg 29 [a0,a1]=bj (S29 (af pg) ak (cl aF a0) (cl aF a1)):=cY
def L31_0(call:CC)(fx:bk AV)(a:RR)(b:List AV):M AV:=cG 28 (ab b 2) fun c=>cq 93 (ab b 3) 2 fun d=>aL 91 d 2 3 fun e=>bZ .lss 3 c e (ar (call 77 [qi 0]) fun f=>qC 28 1 [(0,f)] fun g=>ar (appH T 28 false (ab b 2) g) fun h=>a [ab b 0,ab b 1,h,ab b 3]) (dY (ab b 0) fun i=>cq 73 i 0 fun j=>cq 36 j 2 fun k=>eI 24 k fun l=>cq 93 (ab b 3) 2 fun m=>aL 91 m 0 9 fun n=>iC true 44 [(0,ab b 1),(1,n),(3,ab b 2)] fun o=>qC 24 1 [(0,o)] fun p=>ar (appH T 24 false l p) fun q=>dY (ab b 0) fun r=>cq 73 r 0 fun s=>cq 36 s 2 fun u=>m6 24 u q fun v=>ao (.tup []))
def K31_0(call:CC)(fx:bk AV)(a:List AV):M AV:=fx (L31_0 call fx) (gy a)
def FL31_0(call:CC):FW (L31_0 call ak):=gL
def S31(call:CC)(fx:bk AV)(a0 a1 a2 a3:AV):M AV:=jn (K31_0 call fx) fun a=>aL 93 (qc a2) 1 4 fun b=>aC b (dY a0 fun c=>cq 73 c 0 fun d=>cq 36 d 4 fun e=>cq 34 e 3 fun f=>eI 32 f fun g=>cq 93 (qc a2) 2 fun h=>aL 91 h 0 9 fun i=>ar (call 32 [a3]) fun j=>iC false 65 [(0,a1),(1,i),(2,j)] fun k=>qC 32 1 [(0,k)] fun l=>ar (appH T 32 false g l) fun m=>dY a0 fun n=>cq 73 n 0 fun o=>cq 36 o 4 fun p=>cq 34 p 3 fun q=>m6 32 q m fun r=>a [a0,a1,a3,qc a2]) (a [a0,a1,a3,qc a2])
def C31(a0 a1 a2 a3:AV):af pg 31 [a0,a1,a2,a3]=S31 (af pg) ak a0 a1 a2 a3:=cZ
def L34_0(call:CC)(fx:bk AV)(a:RR)(b:List AV):M AV:=cG 32 (ab b 0) fun c=>bZ .lss 3 (ab b 2) c (jJ 32 (ab b 0) (ab b 2) fun d=>aL 65 d 0 9 fun e=>jJ 32 (ab b 1) (ab b 2) fun f=>aL 65 f 0 9 fun g=>aX .neq 9 e g fun h=>eH h (xr 32 (ab b 0) (ab b 2) fun i=>bA 65 i 1 9 fun j=>xr 32 (ab b 1) (ab b 2) fun k=>bA 65 k 1 9 fun l=>cI .neq 9 j l fun m=>ao [m]) fun n=>eH n (xr 32 (ab b 0) (ab b 2) fun o=>bA 65 o 2 28 fun p=>xr 32 (ab b 1) (ab b 2) fun q=>bA 65 q 2 28 fun r=>ar (dy (call 15 [p,r])) fun s=>l7 UnOp.not s fun u=>ao [u]) fun v=>aC v (ao (.bool false)) (aX .add 3 (ab b 2) (qi 1) fun w=>a [ab b 0,ab b 1,w])) (ao (.bool true))
def FL34_0(call:CC):FW (L34_0 call ak):=gL
def S34(call:CC)(fx:bk AV)(a0 a1:AV):M AV:=cG 32 a0 fun a=>cG 32 a1 fun b=>bZ .neq 3 a b (ao (.bool false)) (fx (L34_0 call fx) [a0,a1,qi 0])
def C34(a0 a1:AV):af pg 34 [a0,a1]=bj (S34 (af pg) ak (cl aF a0) (cl aF a1)):=cY
def L38_0(call:CC)(fx:bk AV)(a:RR)(b:List AV):M AV:=bZ .lss 3 (ab b 3) (ab b 2) (eg 23 (ab b 1) (ab b 3) 58 fun c=>iQ 2 c fun d=>aL 58 (qc d) 0 9 fun e=>jJ 22 (ab b 0) (ab b 3) fun f=>aL 53 f 0 9 fun g=>aX .neq 9 e g fun h=>eH h (bA 58 (qc d) 1 28 fun i=>xr 22 (ab b 0) (ab b 3) fun j=>bA 53 j 2 47 fun k=>l8 47 k fun l=>ar (dy (call 29 [i,l])) fun m=>l7 UnOp.not m fun n=>ao [n]) fun o=>aC o (ao (.bool false)) (aX .add 3 (ab b 3) (qi 1) fun p=>a (nO b [p]))) (ao (.bool true))
def FL38_0(call:CC):FW (L38_0 call ak):=gL
def S38(call:CC)(fx:bk AV)(a0 a1:AV):M AV:=cG 22 a0 fun a=>cG 23 a1 fun b=>bZ .neq 3 a b (ao (.bool false)) (cG 23 a1 fun c=>fx (L38_0 call fx) [a0,a1,c,qi 0])
def C38(a0 a1:AV):af pg 38 [a0,a1]=bj (S38 (af pg) ak (cl aF a0) (cl aF a1)):=cY
def K43_0(call:CC)(fx:bk AV)(a:List AV):M AV:=aC (ab a 3) (eh 113 (ab a 2) fun b=>ar (call 101 [ab a 0,ab a 1,b]) fun c=>ao c) (aL 113 (ab a 2) 0 3 fun d=>ar (call 102 [ab a 1,d]) fun e=>ao e)
def K43_1(call:CC)(fx:bk AV)(a:List AV):M AV:=aC (ab a 4) (eh 113 (ab a 2) fun b=>ar (call 100 [ab a 0,ab a 1,b]) fun c=>ao c) (jn (K43_0 call fx) fun d=>aX .eql 3 (ab a 3) (qi 9) fun e=>aC e (d (nO a [e])) (aX .eql 3 (ab a 3) (qi 13) fun f=>aC f (d (nO a [f])) (aX .eql 3 (ab a 3) (qi 15) fun g=>d (nO a [g]))))
def S43(call:CC)(fx:bk AV)(a0 a1 a2:AV):M AV:=aL 113 (qc a2) 0 3 fun a=>bZ .eql 3 a (qi 0) (aL 113 (qc a2) 1 3 fun b=>ar (call 77 [b]) fun c=>ar (call 93 [a1,c]) fun d=>ao (qi 0)) (bZ .eql 3 a (qi 1) (aL 113 (qc a2) 1 3 fun e=>aX .eql 3 e (qi 1) fun f=>ar (call 94 [f]) fun g=>ar (call 93 [a1,g]) fun h=>ao (qi 0)) (bZ .eql 3 a (qi 2) (dY a1 fun i=>cq 44 i 3 fun j=>eI 28 j fun k=>aL 113 (qc a2) 1 3 fun l=>jJ 28 k l fun m=>eI 30 m fun n=>ar (call 93 [a1,n]) fun o=>ao (qi 0)) (bZ .eql 3 a (qi 3) (dY a1 fun p=>cq 44 p 3 fun q=>ar (fN T 5 3 28 q) fun r=>aL 113 (qc a2) 1 3 fun s=>ar (iy 5 3 (call 95 [a1,qi 1])) fun u=>jJ 28 u (qi 0) fun v=>eI 30 v fun w=>jJ 28 r s fun x=>m6 30 x w fun y=>ao (qi 0)) (bZ .eql 3 a (qi 19) (ar (call 95 [a1,qi 1]) fun z=>ao (qi 0)) (bZ .eql 3 a (qi 10) (aL 113 (qc a2) 1 3 fun A=>dY a1 fun B=>cq 44 B 2 fun C=>m6 3 C A fun D=>ao (qi 0)) (bZ .eql 3 a (qi 11) (ar (call 96 [a1,qi 1]) fun E=>jJ 28 E (qi 0) fun F=>eI 30 F fun G=>iQ 4 G fun H=>aL 30 (qc H) 0 3 fun I=>bZ .neq 3 I (qi 1) (ao (qi 13)) (ar (call 95 [a1,qi 1]) fun J=>aL 30 (qc H) 1 3 fun K=>bZ .eql 3 K (qi 0) (aL 113 (qc a2) 1 3 fun L=>dY a1 fun N=>cq 44 N 2 fun O=>m6 3 O L fun P=>ao (qi 0)) (ao (qi 0)))) (bZ .eql 3 a (qi 12) (aL 113 (qc a2) 4 27 fun Q=>aL 113 (qc a2) 4 27 fun R=>cG 27 R fun S=>ar (call 97 [Q]) fun U=>ar (call 96 [a1,S]) fun V=>ar (ar (call 32 [V]) lE) fun W=>iC false 30 [(0,qi 2),(2,U),(3,W)] fun X=>iQ 4 X fun Y=>eh 30 (qc Y) fun Z=>ar (call 98 [Z]) fun u0=>bZ .gtr 3 u0 (qi 4) (ao (qi 6)) (aL 113 (qc a2) 4 27 fun u1=>cG 27 u1 fun u2=>ar (call 95 [a1,u2]) fun u3=>eh 30 (qc Y) fun u4=>ar (call 93 [a1,u4]) fun u5=>ao (qi 0))) (bZ .eql 3 a (qi 14) (eh 113 (qc a2) fun u6=>ar (call 99 [a0,a1,u6]) fun u7=>ao u7) (jn (K43_1 call fx) fun u8=>aX .eql 3 a (qi 16) fun u9=>aC u9 (u8 [a0,a1,qc a2,a,u9]) (aX .eql 3 a (qi 17) fun v0=>u8 [a0,a1,qc a2,a,v0]))))))))))
def C43(a0 a1 a2:AV):af pg 43 [a0,a1,a2]=S43 (af pg) ak a0 a1 a2:=cZ
def L47_0(call:CC)(fx:bk AV)(a:RR)(b:List AV):M AV:=cG 48 (ab b 0) fun c=>bZ .lss 3 (ab b 2) c (eg 48 (ab b 0) (ab b 2) 121 fun d=>eg 48 (ab b 1) (ab b 2) 121 fun e=>ar (dy (call 104 [d,e])) fun f=>mb UnOp.not f fun g=>aC g (ao (.bool false)) (aX .add 3 (ab b 2) (qi 1) fun h=>a [ab b 0,ab b 1,h])) (ao (.bool true))
def FL47_0(call:CC):FW (L47_0 call ak):=gL
def S47(call:CC)(fx:bk AV)(a0 a1:AV):M AV:=cG 48 a0 fun a=>cG 48 a1 fun b=>bZ .neq 3 a b (ao (.bool false)) (fx (L47_0 call fx) [a0,a1,qi 0])
def C47(a0 a1:AV):af pg 47 [a0,a1]=bj (S47 (af pg) ak (cl aF a0) (cl aF a1)):=cY
def S74(call:CC)(fx:bk AV)(a0 a1:AV):M AV:=ar (call 134 [a0,a1]) fun a=>aX .geq 3 a (qi 0) fun b=>ao b
def C74(a0 a1:AV):af pg 74 [a0,a1]=bj (S74 (af pg) ak (cl aF a0) (cl aF a1)):=cY
def S77(call:CC)(fx:bk AV)(a0:AV):M AV:=iC false 30 [(0,qi 0),(1,a0)] fun a=>fE 4 [] a fun b=>ao (.agg (gy (aa b)))
def C77(a0:AV):af pg 77 [a0]=bj (S77 (af pg) ak (cl aF a0)):=cY
def L85_0(call:CC)(fx:bk AV)(a:RR)(b:List AV):M AV:=cG 47 (ab b 0) fun c=>aX .lss 3 (ab b 1) c fun d=>dJ d (cI .leq 3 (ab b 1) (qi 10) fun e=>ao [e]) fun f=>aC f (jJ 47 (ab b 0) (ab b 1) fun g=>aL 143 g 0 9 fun h=>cG 9 h fun i=>aX .gtr 3 i (qi 30) fun j=>eH j (xr 47 (ab b 0) (ab b 1) fun k=>bA 143 k 1 119 fun l=>ar (call 86 [l]) fun m=>l7 UnOp.not m fun n=>ao [n]) fun o=>aC o (ao (.bool false)) (aX .add 3 (ab b 1) (qi 1) fun p=>a [ab b 0,p])) (cG 47 (ab b 0) fun q=>aX .leq 3 q (qi 10) fun r=>ao r)
def FL85_0(call:CC):FW (L85_0 call ak):=gL
def S85(call:CC)(fx:bk AV)(a0:AV):M AV:=fx (L85_0 call fx) [a0,qi 0]
theorem C85(a0:AV):af pg 85 [a0]=bj (S85 (af pg) ak (cl aF a0)):=cY
def S108(call:CC)(fx:bk AV)(a0:AV):M AV:=aX .eql 9 a0 (.str []) fun a=>eH a (ar (bS (i9 T 9 a0 (qi 0))) fun b=>ar (call 105 [b]) fun c=>l7 UnOp.not c fun d=>ao [d]) fun e=>eH e (l8 9 a0 fun f=>cI .gtr 3 f (qi 20) fun g=>ao [g]) fun h=>aC h (ao (.bool false)) (ar (call 49 [a0,.fn (Fn.func 151) [] []]) fun i=>cG 9 a0 fun j=>aX .eql 3 i j fun k=>ao k)
def C108(a0:AV):af pg 108 [a0]=bj (S108 (af pg) ak (cl aF a0)):=cY
def L123_0(call:CC)(fx:bk AV)(a:RR)(b:List AV):M AV:=bZ .lss 3 (ab b 4) (ab b 3) (eg 48 (ab b 2) (ab b 4) 121 fun c=>iQ 6 c fun d=>eh 121 (qc d) fun e=>ar (call 122 [e]) fun f=>mb UnOp.not f fun g=>aC g (ao (.bool false)) (aX .add 3 (ab b 4) (qi 1) fun h=>a (oF b [h]))) (cG 48 (ab b 0) fun i=>aX .eql 3 i (ab b 1) fun j=>ao j)
def FL123_0(call:CC):FW (L123_0 call ak):=gL
def S123(call:CC)(fx:bk AV)(a0 a1:AV):M AV:=cG 48 a0 fun a=>fx (L123_0 call fx) [a0,a1,a0,a,qi 0]
def C123(a0 a1:AV):af pg 123 [a0,a1]=bj (S123 (af pg) ak (cl aF a0) (cl aF a1)):=cY
def K127_0(call:CC)(fx:bk AV)(a:List AV):M AV:=aC (ab a 2) (ao (.tup [qi 1,qi 1])) (bZ .eql 3 (ab a 1) (qi 12) (aL 113 (ab a 0) 4 27 fun b=>cG 27 b fun c=>ao (.tup [c,qi 1])) (bZ .eql 3 (ab a 1) (qi 14) (aL 113 (ab a 0) 1 3 fun d=>ao (.tup [d,qi 1])) (bZ .eql 3 (ab a 1) (qi 10) (ao (.tup [qi 0,qi 0])) (ao (.tup [qi 1,qi 0])))))
def K127_1(call:CC)(fx:bk AV)(a:List AV):M AV:=aC (ab a 2) (ao (.tup [qi 2,qi 1])) (jn (K127_0 call fx) fun b=>aX .eql 3 (ab a 1) (qi 9) fun c=>aC c (b [ab a 0,ab a 1,c]) (aX .eql 3 (ab a 1) (qi 13) fun d=>aC d (b [ab a 0,ab a 1,d]) (aX .eql 3 (ab a 1) (qi 15) fun e=>aC e (b [ab a 0,ab a 1,e]) (aX .eql 3 (ab a 1) (qi 17) fun f=>b [ab a 0,ab a 1,f]))))
def K127_2(call:CC)(fx:bk AV)(a:List AV):M AV:=aC (ab a 2) (ao (.tup [qi 0,qi 1])) (jn (K127_1 call fx) fun b=>aX .eql 3 (ab a 1) (qi 4) fun c=>aC c (b [ab a 0,ab a 1,c]) (aX .eql 3 (ab a 1) (qi 5) fun d=>aC d (b [ab a 0,ab a 1,d]) (aX .eql 3 (ab a 1) (qi 6) fun e=>aC e (b [ab a 0,ab a 1,e]) (aX .eql 3 (ab a 1) (qi 7) fun f=>aC f (b [ab a 0,ab a 1,f]) (aX .eql 3 (ab a 1) (qi 8) fun g=>b [ab a 0,ab a 1,g])))))
def S127(call:CC)(fx:bk AV)(a0:AV):M AV:=aL 113 (qc a0) 0 3 fun a=>jn (K127_2 call fx) fun b=>aX .eql 3 a (qi 0) fun c=>aC c (b [qc a0,a,c]) (aX .eql 3 a (qi 1) fun d=>aC d (b [qc a0,a,d]) (aX .eql 3 a (qi 2) fun e=>aC e (b [qc a0,a,e]) (aX .eql 3 a (qi 16) fun f=>b [qc a0,a,f])))
def C127(a0:AV):af pg 127 [a0]=bj (S127 (af pg) ak (cl aF a0)):=cY
def S132(call:CC)(fx:bk AV)(a0 a1 a2 a3:AV):M AV:=eh 164 a0 fun a=>eh 27 a1 fun b=>eh 28 a2 fun c=>iC false 212 [(0,qi (-1)),(1,b),(2,c)] fun d=>eh 121 a3 fun e=>ar (call 133 [a,d,e]) fun f=>fE 4 [] f fun g=>ao (.agg (gy (aa g)))
def C132(a0 a1 a2 a3:AV):af pg 132 [a0,a1,a2,a3]=S132 (af pg) ak a0 a1 a2 a3:=cZ
def S145(call:CC)(fx:bk AV)(a0 a1 a2:AV):M AV:=aL 212 (qc a0) 0 3 fun a=>aL 212 (qc a0) 1 27 fun b=>ar (dy (call 177 [b])) fun c=>qC 27 1 [(0,a1)] fun d=>ar (bS (dH T 27 c d)) fun e=>aL 212 (qc a0) 2 28 fun f=>ar (dy (call 178 [f])) fun g=>eh 30 (qc a2) fun h=>qC 28 1 [(0,h)] fun i=>ar (bS (dH T 28 g i)) fun j=>iC false 212 [(0,a),(1,e),(2,j)] fun k=>fE 3 [] k fun l=>ao (.agg (SN (aa l)))
def C145(a0 a1 a2:AV):af pg 145 [a0,a1,a2]=bj (S145 (af pg) ak (cl aF a0) (cl aF a1) (cl aF a2)):=cY
def L148_0(call:CC)(fx:bk AV)(a:RR)(b:List AV):M AV:=aL 121 (ab b 1) 5 48 fun c=>cG 48 c fun d=>aX .lss 3 (ab b 3) d fun e=>dJ e (cI .leq 3 (ab b 2) (ab b 0) fun f=>ao [f]) fun g=>aC g (aL 121 (ab b 1) 5 48 fun h=>eg 48 h (ab b 3) 121 fun i=>aX .sub 3 (ab b 0) (ab b 2) fun j=>ar (call 148 [i,j]) fun k=>aX .add 3 (ab b 2) k fun l=>aX .add 3 (ab b 3) (qi 1) fun m=>a [ab b 0,ab b 1,l,m]) (ao (ab b 2))
def FL148_0(call:CC):FW (L148_0 call ak):=gL
def S148(call:CC)(fx:bk AV)(a0 a1:AV):M AV:=fx (L148_0 call fx) [a1,qc a0,qi 1,qi 0]
theorem C148(a0 a1:AV):af pg 148 [a0,a1]=bj (S148 (af pg) ak (cl aF a0) (cl aF a1)):=cY
def L158_0(call:CC)(fx:bk AV)(a:RR)(b:List AV):M AV:=bZ .lss 3 (ab b 4) (ab b 3) (eg 47 (ab b 2) (ab b 4) 143 fun c=>iQ 3 c fun d=>aL 143 (qc d) 0 9 fun e=>ar (dy (call 119 [e])) fun f=>mb UnOp.not f fun g=>ar (aO g false 1 (cI .gtr 3 (ab b 4) (qi 0) fun h=>ao [h])) fun i=>ar (aO (ab i 0) true 1 (bA 143 (qc d) 0 9 fun j=>bA 119 (ab b 1) 1 47 fun k=>cI .sub 3 (ab b 4) (qi 1) fun l=>xr 47 k l fun m=>bA 143 m 0 9 fun n=>cI .leq 9 j n fun o=>ao [o])) fun p=>eH g (AZ (ab i 0) (ab p 0) (.bool false) fun q=>ao [q]) fun r=>eH r (bA 143 (qc d) 1 119 fun s=>cI .sub 3 (ab b 0) (qi 1) fun u=>ar (dy (call 158 [s,u])) fun v=>l7 UnOp.not v fun w=>ao [w]) fun x=>aC x (ao (.bool false)) (aX .add 3 (ab b 4) (qi 1) fun y=>a (oF b [y]))) (ao (.bool true))
def FL158_0(call:CC):FW (L158_0 call ak):=gL
def S158(call:CC)(fx:bk AV)(a0 a1:AV):M AV:=aX .eql 3 a1 (qi 0) fun a=>eH a (bA 119 (qc a0) 0 3 fun b=>cI .lss 3 b (qi 0) fun c=>ao [c]) fun d=>eH d (bA 119 (qc a0) 0 3 fun e=>cI .geq 3 e (qi 3) fun f=>ao [f]) fun g=>eH g (bA 119 (qc a0) 1 47 fun h=>l8 47 h fun i=>cI .gtr 3 i (qi 8) fun j=>ao [j]) fun k=>ar (aO k false 1 (bA 119 (qc a0) 0 3 fun l=>cI .neq 3 l (qi 2) fun m=>ao [m])) fun n=>ar (aO (ab n 0) true 1 (bA 119 (qc a0) 1 47 fun o=>l8 47 o fun p=>cI .gtr 3 p (qi 0) fun q=>ao [q])) fun r=>eH k (AZ (ab n 0) (ab r 0) (.bool false) fun s=>ao [s]) fun u=>aC u (ao (.bool false)) (aL 119 (qc a0) 1 47 fun v=>cG 47 v fun w=>fx (L158_0 call fx) [a1,qc a0,v,w,qi 0])
def C158(a0 a1:AV):af pg 158 [a0,a1]=bj (S158 (af pg) ak (cl aF a0) (cl aF a1)):=cY
def S160(call:CC)(fx:bk AV)(a0:AV):M AV:=iC false 121 [(0,qi 1),(1,a0)] fun a=>fE 6 [] a fun b=>ao (.agg (uQ (aa b)))
def C160(a0:AV):af pg 160 [a0]=bj (S160 (af pg) ak (cl aF a0)):=cY
def K174_0(call:CC)(fx:bk AV)(a:List AV):M AV:=dY (ab a 0) fun b=>cq 166 b 4 fun c=>cq 34 c 2 fun d=>eI 31 d fun e=>aL 121 (ab a 1) 1 3 fun f=>aL 30 (ab a 2) 1 3 fun g=>iC false 102 [(0,f),(1,g),(2,ab a 3)] fun h=>qC 31 1 [(0,h)] fun i=>ar (appH T 31 false e i) fun j=>dY (ab a 0) fun k=>cq 166 k 4 fun l=>cq 34 l 2 fun m=>m6 31 m j fun n=>ar (call 168 [ab a 3]) fun o=>fE 4 [] o fun p=>ao (.agg (gy (aa p)))
def K174_1(call:CC)(fx:bk AV)(a:List AV):M AV:=jJ 28 (ab a 1) (ab a 0) fun b=>eI 30 b fun c=>fE 4 [] c fun d=>ao (.agg (gy (aa d)))
def S174(call:CC)(fx:bk AV)(a0 a1 a2:AV):M AV:=aL 121 (qc a2) 0 3 fun a=>bZ .eql 3 a (qi 16) (eh 212 (qc a1) fun b=>aL 121 (qc a2) 5 48 fun c=>eg 48 c (qi 0) 121 fun d=>ar (call 133 [a0,b,d]) fun e=>iQ 4 e fun f=>aL 30 (qc f) 0 3 fun g=>aX .eql 3 g (qi 0) fun h=>ar (call 144 [h,qi 13]) fun i=>aL 121 (qc a2) 1 3 fun j=>aX .eql 3 j (qi 1) fun k=>eH k (bA 121 (qc a2) 1 3 fun l=>cI .eql 3 l (qi 2) fun m=>ao [m]) fun n=>eH n (bA 121 (qc a2) 1 3 fun o=>cI .eql 3 o (qi 4) fun p=>ao [p]) fun q=>eH q (bA 121 (qc a2) 1 3 fun r=>cI .eql 3 r (qi 8) fun s=>ao [s]) fun u=>ar (call 144 [u,qi 14]) fun v=>jn (K174_0 call fx) fun w=>dY a0 fun x=>cq 166 x 1 fun y=>eI 25 y fun z=>cG 25 z fun A=>bZ .gtr 3 A (qi 0) (dY a0 fun B=>cq 166 B 1 fun C=>eI 25 C fun D=>eg 25 D (qi 0) 3 fun E=>dY a0 fun F=>cq 166 F 1 fun G=>eI 25 G fun H=>ar (bS (dc T 25 H (some (qi 1)) none none)) fun I=>dY a0 fun J=>cq 166 J 1 fun K=>m6 25 K I fun L=>w [a0,qc a2,qc f,E,qi 0,qi 0,.sl [],.sl []]) (w [a0,qc a2,qc f,qi 0,qi 0,qi 0,.sl [],.sl []])) (aL 212 (qc a1) 0 3 fun N=>aX .geq 3 N (qi 0) fun O=>ar (call 144 [O,qi 12]) fun P=>dY a0 fun Q=>cq 166 Q 0 fun R=>eI 22 R fun S=>aL 212 (qc a1) 0 3 fun U=>jJ 22 S U fun V=>aL 53 V 2 47 fun W=>ar (dy (call 184 [W,.fn (Fn.func 187) [] [qc a2]])) fun X=>aX .geq 3 X (qi 0) fun Y=>ar (call 144 [Y,qi 12]) fun Z=>dY a0 fun u0=>cq 166 u0 4 fun u1=>cq 34 u1 4 fun u2=>eI 23 u2 fun u3=>aL 212 (qc a1) 0 3 fun u4=>jJ 23 u3 u4 fun u5=>cq 58 u5 1 fun u6=>eI 28 u6 fun u7=>jn (K174_1 call fx) fun u8=>aL 121 (qc a2) 0 3 fun u9=>bZ .eql 3 u9 (qi 18) (eh 212 (qc a1) fun v0=>aL 121 (qc a2) 5 48 fun v2=>eg 48 v2 (qi 0) 121 fun v4=>ar (call 133 [a0,v0,v4]) fun v6=>jJ 28 u7 X fun w0=>m6 30 w0 v6 fun w1=>u8 [X,u7,qi 0,qi 0,.sl [],.sl []]) (u8 [X,u7,qi 0,qi 0,.sl [],.sl []]))
def C174(a0 a1 a2:AV):af pg 174 [a0,a1,a2]=S174 (af pg) ak a0 a1 a2:=cZ
def L184_0(call:CC)(fx:bk AV)(a:RR)(b:List AV):M AV:=bZ .lss 3 (ab b 3) (ab b 2) (eg 47 (ab b 0) (ab b 3) 143 fun c=>ar (cV call (ab b 1) [c]) fun d=>aC d (ao (ab b 3)) (aX .add 3 (ab b 3) (qi 1) fun e=>a (nO b [e]))) (ao (qi (-1)))
def FL184_0(call:CC):FW (L184_0 call ak):=gL
def S184(call:CC)(fx:bk AV)(a0 a1:AV):M AV:=cG 47 a0 fun a=>fx (L184_0 call fx) [a0,a1,a,qi 0]
def C184(a0 a1:AV):af pg 184 [a0,a1]=bj (S184 (af pg) ak (cl aF a0) (cl aF a1)):=cY
end
end Go.Proofs.YtbndmpiddinalacGreatDoor
