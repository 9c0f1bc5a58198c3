/- What the functions compute, part 2. Conditions: bounds. -/
import Derived.Test.YtbndmpiddinalaaGreatDoorTa
import Derived.Test.YtbndmpiddinalaaGreatDoorRows
import Derived.Lib.LaidTab
import Derived.Stop.LaidErr
import Derived.Shelf.Vars
import Derived.ProofKit
import Derived.Deep.DeepHandedRow
import Derived.Deep.DeepWitnessRowRef
import Derived.Deep.DeepLaidRun
set_option linter.defProp false
set_option linter.unusedSimpArgs false
set_option linter.unusedVariables false
namespace Go.Proofs.YtbndmpiddinalaaGreatDoor
open Go Go.Av
set_option maxRecDepth 100000
def rq(w:World):(rp w).heap.size=w.heap.size+2:=by simp[rp]
def IJ(w:World)(b:Nat)(hb:b<w.heap.size):(rp w).heap[b]? = w.heap[b]?:=by
 grind [rp,Go.Av.alloc_old]
def Bo(w:World):Gro w (rp w):=(Gro.alloc w _ _).trans (Gro.alloc _ _ _)
def Bn(w w':World)(u0 u1 u2 u3 e:Value):Gro w' (CY w w' u0 u1 u2 u3 e):=
 ((((Gro.setCell _ _ _).trans (Gro.setCell _ _ _)).trans (Gro.setCell _ _ _)).trans (Gro.setCell _ _ _)).trans (Gro.setCell _ _ _)
def xC(w w':World)(u0 u1 u2 u3 e:Value)(b:Nat)(hb:¬(w.heap.size<=b/\b<(rp w).heap.size)):(CY w w' u0 u1 u2 u3 e).heap[b]? = w'.heap[b]?:=by
 rw[rq]at hb;unfold CY;rw[gF ZQ,gF ZQ,gF ZQ,gF ZQ,gF ZQ]
def wz{call:FuncId->List AV->M AV}{f:AV}{xs:List AV}{h:Hp}(hr:cS call f xs h≠.fail):∃g a c,f= .fn (.func g) a c:=by
 unfold cS at hr;split at hr
 ·grind
 ·exact absurd rfl hr
theorem Oj:O8:=by
 intro call hC args h S β w vs hr hg hw hh hv
 have key:∀f,args=[f]->Calls Tryz.prog 85 vs.toArray w (ff none S β h w (Bl 30 .i64 (.agg [.int .i64 0,.int .i64 0,.sl [],.sl []]) call args h)):=by
  rintro f rfl;have ht:Bl 30 .i64 (.agg [.int .i64 0,.int .i64 0,.sl [],.sl []]) call [f] h=Bm 30 .i64 (.agg [.int .i64 0,.int .i64 0,.sl [],.sl []]) (cS call f [] h):=rfl;rw[ht]at hr |-;clear ht;simp only[bA]at hv;obtain⟨fv,_,rfl,hv,rfl⟩:=hv;have hne:cS call f [] h≠.fail:=fun e=>by rw[e]at hr;exact hr rfl
  obtain⟨g,a,c,rfl⟩:=wz hne
  ·have hcv:cS call (.fn (.func g) a c) [] h=call g (a++[]++c) h:=rfl;rw[hcv]at hr hne |-;simp only[VR]at hv;obtain⟨x,y,rfl,hx,hy⟩:=hv;have hold:=IJ w;have hv2:bA S β (a++[]++c) (x++y):=by simpa using hx.append hy
   obtain⟨hcall,hfn⟩:=hC g (a++[]++c) h S β (rp w) (x++y) hne ⟨hg.1.mono fun b hb=>hold b (Nat.lt_of_lt_of_le hb hg.1.lt),hg.2⟩ (hw.grow hold) (hh.grow hold) hv2;refine IK g x.toArray y.toArray w _ hfn ?_;have e:(x++y).toArray=x.toArray++y.toArray:=ZO
   rw[<- e];refine hcall.mono fun en w' hp=>?_;have kk:∀S' β' h',Go.Av.Left (db β h) S β (rp w) S' β' w' h'->w'.heap[w.heap.size]? = (rp w).heap[w.heap.size]? /\w'.heap[w.heap.size+1]? = (rp w).heap[w.heap.size+1]?:=fun S' β' h' L=>
    ⟨(L.keep _ (by rw[rq];omega) fun ho=>by have:=hh.low ho;omega).1,(L.keep _ (by rw[rq];omega) fun ho=>by have:=hh.low ho;omega).1⟩
   generalize call g (a++[]++c) h=r at hr hne hp |-;cases r with
   |fail=>grind
   | ok v h'=>
    obtain⟨S',β',u,rfl,hu,L,_⟩:=hp;refine⟨(kk _ _ _ L).1,(kk _ _ _ L).2,.inl ?_⟩;simp only[Bm]at hr |-;cases hok:bT 4 v with
    |false=>grind
    | true=>
     obtain⟨g1,g2,g3⟩:=kg hok hu;have hcs:∃cs,v= .agg cs:=by
      simp only[bT,Xq]at hok;have h1:=hok.1;cases v<;>simp[dy]at h1;exact⟨_,rfl⟩
     obtain⟨cs,rfl⟩:=hcs;simp only[VR]at hu;obtain⟨us,rfl,hus⟩:=hu;simp only[Value.cells]at g1 g3
     match us,g1 with
     |[u0,u1,u2,u3],_=>
      refine⟨u0,u1,u2,u3,g3 u0 ZO,g3 u1 ZO,g3 u2 ZO,g3 u3 ZO,rfl,S',β',_,rfl,?_,qS (Bo w) hold L (Bn ..) (fun b hb=>xC w w' _ _ _ _ _ b hb) hw hh,fun sz hsz=>by cases hsz⟩;simp only[VR,bA];exact⟨[.agg #[u0,u1,u2,u3],.int .i64 0],rfl,_,_,rfl,⟨[u0,u1,u2,u3],rfl,hus⟩,_,_,rfl,rfl,rfl⟩
   | pan v h'=>
    obtain⟨S',β',u,rfl,hu,L⟩:=hp;refine⟨(kk _ _ _ L).1,(kk _ _ _ L).2,.inr ?_⟩;unfold Bm at hr |-;split at hr
    ·grind
    ·rename_i t' k' n h'' heq;cases heq;cases hb:(Nat.beq t' 30&&decide (k'=IntKind.i64))with
     |false=>grind
     |true=>
      simp only[Xq,Xp]at hb;obtain⟨hb1,rfl⟩:=hb
      have:=Nat.eq_of_beq_eq_true hb1
      subst this;simp only[VR]at hu;obtain⟨u',rfl,rfl⟩:=hu;refine⟨n,rfl,S',β',_,rfl,?_,qS (Bo w) hold L (Bn ..) (fun b hb=>xC w w' _ _ _ _ _ b hb) hw hh,fun sz hsz=>by cases hsz⟩;simp only[VR,bA];refine⟨[.agg #[.int .i64 0,.int .i64 0,.slice none 0 0,.slice none 0 0],.int .i64 n],rfl,_,_,rfl,⟨[.int .i64 0,.int .i64 0,.slice none 0 0,.slice none 0 0],rfl,_,_,rfl,rfl,_,_,rfl,rfl,_,_,rfl,?_,_,_,rfl,?_,rfl⟩,_,_,rfl,rfl,rfl⟩
      ·exact⟨none,0,rfl,Xt _,fun _=>rfl,fun q hq=>by cases hq⟩
      ·exact⟨none,0,rfl,Xt _,fun _=>rfl,fun q hq=>by cases hq⟩
    grind
 rcases args with _|⟨f,_|⟨f2,r⟩⟩
 ·exact absurd rfl hr
 ·exact key _ rfl
 ·exact absurd rfl hr
set_option maxHeartbeats 4000000 in
def Ii(p q:Addr)(w:World):CallsD Tryz.prog 65 #[.pointer (some p),.pointer (some q)] .returning w fun e u' w'=>e= .returned (.tuple #[])/\u'= .returning/\w'=w:=by
 refine callsD_of_wpS Tryz.func65 rfl fun c₀ cs hu=>?_;apply wpS_seq;apply wpS_region;simp[wpOpsS,go_sem,recoverD,hu,Tryz.ntmps65,Exit.thenS];refine wpS_of_wp ?_
 go_wp2
 cases c₀;simp_all[bodyPostS,results]
def q9(w:World):World:=(w.alloc (Obj.cells #[Value.int IntKind.i64 0] 3)).alloc (Obj.cells #[Value.int IntKind.i64 0] 30)
def Ic(w w':World):World:=(w'.setCell ⟨w.heap.size,0,none⟩ (.int .i64 0)).setCell ⟨w.heap.size+1,0,none⟩ (.int .i64 0)
set_option maxHeartbeats 4000000 in
def Ik(g:FuncId)(x y:Array Value)(p:Value)(w:World)(R:Ending->World->Prop)(hfn:(Tryz.prog.funcs[g]?).any (fun fn=>fn.body.isSome&&!(fn.name== "runtime.NumGoroutine"))=true)(hc:Calls Tryz.prog g (x++y) (q9 w) fun e w'=>w'.heap[w.heap.size]? = (q9 w).heap[w.heap.size]? /\w'.heap[w.heap.size+1]? = (q9 w).heap[w.heap.size+1]? /\(∃u,e= .returned u)/\R (.returned (.tuple #[.int .i64 0,.int .i64 0])) (Ic w w')):Calls Tryz.prog 31 #[p,.func (.func g) x y] w R:=by
 have hmf:∀(fn:Fn)(first cap:Array Value)(w:World),(Instr.makeFunc fn first cap).run Tryz.prog w= .ok (.func fn first cap) w:=fun _ _ _ _=>rfl
 go_enter_defers Tryz.func31,Tryz.ntmps31
 go_wp2
 rw[iB hfn,Oper.upon_enter];refine hc.mono fun e w' h=>?_;obtain⟨k0,k1,⟨u,rfl⟩,hR⟩:=h;have r0:w'.heap[w.heap.size]? = some (.cells #[Value.int IntKind.i64 0] 3):=by rw[k0];exact (Go.Av.alloc_old _ _ ZO).trans (heap_alloc_new w _)
 have r1:w'.heap[w.heap.size+1]? = some (.cells #[Value.int IntKind.i64 0] 30):=by rw[k1];have:=heap_alloc_new (w.alloc (Obj.cells #[Value.int IntKind.i64 0] 3)) (Obj.cells #[Value.int IntKind.i64 0] 30);rwa [World.size_alloc]at this
 have c0:w'.cell? ⟨w.heap.size,0,none⟩=some (.int .i64 0):=by simp[World.cell?,r0]
 have d0:w'.cell? ⟨w.heap.size+1,0,none⟩=some (.int .i64 0):=by simp[World.cell?,r1]
 have f0:w'.frozen? ⟨w.heap.size,0,none⟩=false:=by simp[World.frozen?,r0]
 have g0:w'.frozen? ⟨w.heap.size+1,0,none⟩=false:=by simp[World.frozen?,r1]
 clear k0 k1 r0 r1 hc hmf;simp only
 go_wp2
 change Leaves _ _ _ _ _ _ _;refine leaves_cons (f:=65) (args:=#[.pointer (some ⟨w.heap.size,0,none⟩),.pointer (some ⟨w.heap.size+1,0,none⟩)]) ZO (by simp[go_sem]) ?_;refine (Ii ⟨w.heap.size,0,none⟩ ⟨w.heap.size+1,0,none⟩ _).mono ?_;rintro e u' w'' ⟨rfl,rfl,rfl⟩;simp only[Leaves,settle];refine⟨_,?_,hR⟩;simp[results,Tryz.results31,go_sem,Ic,World.cell?_setCell_same,c0,d0]
theorem ra(w:World):(q9 w).heap.size=w.heap.size+2:=by simp[q9]
def Ih(w:World)(b:Nat)(hb:b<w.heap.size):(q9 w).heap[b]? = w.heap[b]?:=by
 grind [q9,Go.Av.alloc_old]
def Ig(w:World):Gro w (q9 w):=(Gro.alloc w _ _).trans (Gro.alloc _ _ _)
def Ie(w w':World):Gro w' (Ic w w'):=(Gro.setCell _ _ _).trans (Gro.setCell _ _ _)
def FB(w w':World)(b:Nat)(hb:¬(w.heap.size<=b/\b<(q9 w).heap.size)):(Ic w w').heap[b]? = w'.heap[b]?:=by
 grind [ra,Ic,gF]
theorem Ss(call:FuncId->List AV->M AV)(hC:dB Tryz.prog own call)(args:List AV)(h:Hp)(S:aD)(β:List cD)(w:World)(vs:List Value)(hr:sJ call args h≠.fail)(hg:wb S β h w)(hw:Wf S w)(hh:dC S β w h)(hv:bA S β args vs):
  Calls Tryz.prog 31 vs.toArray w (ff none S β h w (sJ call args h)):=by
 have key:∀p f,args=[p,f]->Calls Tryz.prog 31 vs.toArray w (ff none S β h w (sJ call args h)):=by
  rintro p f rfl;have ht:sJ call [p,f] h=fc (cS call f [] h):=rfl;rw[ht]at hr |-;clear ht;simp only[bA]at hv;obtain⟨pv,_,rfl,_,fv,_,rfl,hv,rfl⟩:=hv;have hne:cS call f [] h≠.fail:=fun e=>by rw[e]at hr;exact hr rfl
  obtain⟨g,a,c,rfl⟩:=wz hne;have hcv:cS call (.fn (.func g) a c) [] h=call g (a++[]++c) h:=rfl;rw[hcv]at hr hne |-;simp only[VR]at hv;obtain⟨x,y,rfl,hx,hy⟩:=hv;have hold:=Ih w;have hv2:bA S β (a++[]++c) (x++y):=by simpa using hx.append hy
  obtain⟨hcall,hfn⟩:=hC g (a++[]++c) h S β (q9 w) (x++y) hne ⟨hg.1.mono fun b hb=>hold b (Nat.lt_of_lt_of_le hb hg.1.lt),hg.2⟩ (hw.grow hold) (hh.grow hold) hv2;refine Ik g x.toArray y.toArray pv w _ hfn ?_;have e:(x++y).toArray=x.toArray++y.toArray:=ZO
  rw[<- e];refine hcall.mono fun en w' hp=>?_;have kk:∀S' β' h',Go.Av.Left (db β h) S β (q9 w) S' β' w' h'->w'.heap[w.heap.size]? = (q9 w).heap[w.heap.size]? /\w'.heap[w.heap.size+1]? = (q9 w).heap[w.heap.size+1]?:=fun S' β' h' L=>
   ⟨(L.keep _ (by rw[ra];omega) fun ho=>by have:=hh.low ho;omega).1,(L.keep _ (by rw[ra];omega) fun ho=>by have:=hh.low ho;omega).1⟩
  generalize call g (a++[]++c) h=r at hr hne hp |-;cases r with
  |fail=>grind
  |pan v h'=>exact absurd rfl hr
  |ok v h'=>
   obtain⟨S',β',u,rfl,hu,L,_⟩:=hp;refine⟨(kk _ _ _ L).1,(kk _ _ _ L).2,⟨_,rfl⟩,?_⟩;simp only[fc];refine⟨S',β',_,rfl,?_,qS (Ig w) hold L (Ie ..) (fun b hb=>FB w w' b hb) hw hh,fun sz hsz=>by cases hsz⟩;simp only[VR,bA]
   grind
 rcases args with _|⟨p,_|⟨f,_|⟨f2,r⟩⟩⟩
 ·exact absurd rfl hr
 ·exact absurd rfl hr
 ·grind
 ·exact absurd rfl hr
end Go.Proofs.YtbndmpiddinalaaGreatDoor
namespace Go.Proofs.YtbndmpiddinalaaGreatDoor
open Go Go.Av Go.RowKit
set_option maxRecDepth 100000
def Uj{α:Type}{f k:Nat}{x:α}{o:Option α}{y:α}(h:(bif Nat.beq f k then some x else o)=some y):(f=k/\x=y)\/o=some y:=by
 cases hb:Nat.beq f k with
 |true=>simp_all
 |false=>grind
def Gn{α:Type}{f k:Nat}{x y:α}{o:Option α}{P:Prop}(h1:f=k->x=y->P)(h2:o=some y->P)(h:(bif Nat.beq f k then some x else o)=some y):P:=(Uj h).elim (fun h=>h1 h.1 h.2) h2
def Gp{f k:Nat}{b:Bool}{P:Prop}(h1:f=k->P)(h2:b=true->P)(h:(bif Nat.beq f k then true else b)=true):P:=by
 cases hb:Nat.beq f k with
 |true=>simp_all
 |false=>grind
def U8:GoodPg Tryz.prog pg where
 tok:=tok
 funcs:=Ha
 other:=by
  intro f E hE call hC args h S β w vs hr hg hw hh hv;have h0:other f=some E:=hE;unfold other at h0;revert h0
  repeat' refine Gn ?_ ?_
  all_goals first
   |(intro h0;cases h0;done)
   |(rintro rfl rfl;exact⟨Ss call hC args h S β w vs hr hg hw hh hv,ZR⟩)
   |(rintro rfl rfl;exact⟨Oj call hC args h S β w vs hr hg hw hh hv,ZR⟩)
   |(rintro rfl rfl;exact⟨N0 call args h S β w vs hr hg hw hh hv,ZR⟩)
   |(rintro rfl rfl;exact⟨NZ call args h S β w vs hr hg hw hh hv,ZR⟩)
   |(rintro rfl rfl;exact⟨Sq call args h S β w vs hr hg hw hh hv,ZR⟩)
   |(rintro rfl rfl;exact⟨Su call args h S β w vs hr hg hw hh hv,ZR⟩)
   |(rintro rfl rfl;exact⟨NY call args h S β w vs hr hg hw hh hv,ZR⟩)
   |(rintro rfl rfl;exact⟨Sr call args h S β w vs hr hg hw hh hv,ZR⟩)
   |(rintro rfl rfl;exact⟨NV call args h S β w vs hr hg hw hh hv,ZR⟩)
   |(rintro rfl rfl;exact⟨NW call args h S β w vs hr hg hw hh hv,ZR⟩)
   |(rintro rfl rfl;exact⟨NX call args h S β w vs hr hg hw hh hv,ZR⟩)
 nw:=by
  intro f hf;have h0:pg.nw f=true:=hf;revert h0;show (bif _ then _ else _)=true->_
  repeat' refine Gp ?_ ?_
  all_goals first
   |(intro h0;cases h0;done)
   |(rintro rfl;exact⟨_,rfl,fun call args=>EL _ _ _ _⟩)
end Go.Proofs.YtbndmpiddinalaaGreatDoor
namespace Go.Proofs.YtbndmpiddinalaaGreatDoor
open Go Go.Av Go.ChangeShapes Go.WideShapes Go.ChangeAt Go.RowKit
set_option maxRecDepth 1000000
def VN:ownKnob Tryz.prog.godebug=none:=ZR
def vL{H:Type}{enc:TypeId×Value->H}{P:Program}{w:World}{base:Nat}{sp:Nat->Bool}{held:Bool}{fuel:Nat}{t e:TypeId}{n:Nat}{cs:List Value}{zs:List (List UInt8)}{p:List MemPlace}(ht:P.underlying t=some (.array n e))(he:P.underlying e=some .string)(hce:P.cellsOf e=1)(hct:P.cellsOf t=n)(h:DataW.trod enc P w base sp held fuel t cs=some (.agg (zs.map fun z=>.lit (.string z)),p)):cs=zs.map fun z=>Value.string ⟨z.toArray⟩:=by
 cases fuel with
 |zero=>simp[DataW.trod]at h
 | succ fuel=>
  simp only[DataW.trod,ht,hce,hct,Nat.mul_one]at h;split at h
  ·rename_i hl;obtain⟨xs,hm,hx⟩:=Yo.1 h;have hxs:xs.map (·.1)=zs.map fun z=>(DataW.lit (.string z):DataW H):=by
    have:=XY Prod.fst hx
    simpa using this
   have hxl:xs.length=n:=by simpa using Lib.mapM_length hm
   have hzl:zs.length=n:=by
    have:=XY List.length hxs
    simp at this;omega
   apply YE;intro i;by_cases hi:i<n
   ·obtain⟨b,hb,hf⟩:=Lib.mapM_at hm i i (by simp[hi]);obtain⟨z,hc,rfl,_⟩:=DataW.trod_string he hf;have h1:cs[i]? = some (.string z):=by
     have:=XY (·[0]?) hc
     simpa [YU,YI]using this
    have h2:(xs.map (·.1))[i]? = some (DataW.lit (.string z.data.toList):DataW H):=by simp[hb]
    simp_all
   grind
  ·cases h
def Nv{W:World}(hL:laidMetH Tryz.prog Rows.vmSplitsRow.laid W)(hS:W.ShapedOpen Tryz.prog):GOKw W:=by
 have h0:laidMet Tryz.prog Rows.vmSplitsRow.laid W:=hL;have h1:=h0.tail;have h2:=h1.tail;have ha:=Lib.tabIs_of_head (k:=.u8) (zs:=Lib.asciiSpaceTab) (g:=1) (t:=239) (e:=5) (n:=256) ZR ZR ZR ZR ZR ZR h1
 have hw:W.var? Tryz.prog "lading/lex.signs" = some (uZ.map fun s=>Value.string ⟨s.toArray⟩).toArray:=by
  obtain⟨ps,⟨g',t',cs,fuel,p,q,hg',ht',hvar,hd,_,_⟩,_⟩:=h2
  obtain rfl:=Yc ((show Tryz.prog.globalNamed "lading/lex.signs" = some 0 by kernel_rfl).symm.trans hg')
  obtain rfl:=Yc ((show (Tryz.prog.globals[0]?).map (·.type)=some 209 by kernel_rfl).symm.trans ht');rw[hvar,<- vL (zs:=uZ) (n:=14) (e:=9) ZR Tryz.underlying9 ZR ZR hd]
 have hvar:∀ {name:String} {g:Nat} {cs:Array Value},Tryz.prog.globalNamed name=some g->W.var? Tryz.prog name=some cs->∃t fr,W.heap[g]? = some (.cells cs t fr):=by
  intro name g cs hn hv;unfold World.var? at hv;rw[hn]at hv;simp only[Zd]at hv;split at hv
  ·grind
  ·cases hv
 refine⟨hvar ZR hw,hvar ZR ha,?_⟩;exact cell_of_shapedOpen_int (zero:=#[.int .i64 0]) (t:=3) hS (of_decide_eq_true ZR) ZR rfl ZR ZR Tryz.underlying3
mutual
def tB:DataW Unit->List Value
 |.lit (.bool b)=>[.bool b]
 |.lit (.int k n)=>[.int k n]
 |.lit (.string s)=>[.string ⟨s.toArray⟩]
 |.agg ps=>GI ps
 |_=>[]
def GI:List (DataW Unit)->List Value
 |[]=>[]
 |d:: ds=>tB d++GI ds
end
def CL:List Value:=[9,13,1,32,133,101,160,5760,5600,8192,8202,1,8232,8233,1,8239,8287,48,12288,12288,1].map (Value.int .u16)
noncomputable def low:Nat:=(World.holding Tryz.prog default ⟨#[],#[],[]⟩).heap.size
noncomputable def IP:List (Option (Array Value)):=[some (tB Rows.laid_lading_lex_signs).toArray,some (tB Rows.laid_strings_asciiSpace).toArray,some #[.pointer (some ⟨low,0,none⟩)]]
def yF:List Obj->List (Option (Array Value))->List Obj
 |.cells _ t fr:: os,some c:: cs=>.cells c t fr:: yF os cs
 |o:: os,_:: cs=>o:: yF os cs
 |os,[]=>os
 |[],_=>[]
noncomputable def qQ(os:Os):World:=
 let w0:=World.holding Tryz.prog os ⟨#[.cells #[.slice (some ⟨low+1,0,none⟩) 7 7,.slice none 0 0,.int .i64 2] 257,.cells CL.toArray 260],#[],[]⟩
 { w0 with heap:=(yF w0.heap.toList IP).toArray }
def Hu(os:Os)(args:Array Value):laidMet Tryz.prog Rows.vmSplitsRow.laid ((qQ os).forCall (fun _ _=>0) ⟨#[],args,[]⟩).memory:=
 laidMet_of_run3 8 ZR ZR ZR
end Go.Proofs.YtbndmpiddinalaaGreatDoor
namespace Go.Proofs.YtbndmpiddinalaaGreatDoor
open Go Go.Av Go.Av.Ap Go.RowKit
set_option maxRecDepth 1000000
section
variable {H:Type} {enc:TypeId×Value->H} {W:World}
theorem kK:reachBytes=140737488351232:=rfl
theorem yL(N:Nat):Rd enc Tryz.prog W N 31 (fun l:List aW=>[strs l]) (fun l=>l.length<=8796093022208):=
 (kJ (nL Tryz.underlying9) Tryz.underlying31 (by kernel_rfl:_=1) ZM (by kernel_rfl:_=16) (zN fun _=>rfl)).map id (fun _=>rfl) (fun l h=>by grind [kK])
theorem Kh(N:Nat):Rd enc Tryz.prog W N 24 (fun l:List Int=>[ints l]) (fun l=>l.length<=140737488355328):=
 (kJ (mN Tryz.underlying3) Tryz.underlying24 (by kernel_rfl:_=1) ZM (by kernel_rfl:_=8) (zN fun _=>rfl)).map id (fun _=>rfl) (fun l h=>by grind [kK])
theorem Val.lim_mk{k n:Int}{ns:List aW}{vs:List Val}(h1:ns.length<=140737488355328)(h2:vs.length<=140737488355328)(h3:∀v∈vs,v.Lim):(Val.mk k n ns vs).Lim:=fun j=>match j with
 |0=>trivial
 |j+1=>⟨h1,h2,fun x hx=>h3 x hx j⟩
theorem Exp.lim_mk{o n:Int}{s m:aW}{ns:List aW}{es:List Exp}(h1:ns.length<=8796093022208)(h2:es.length<=140737488355328)(h3:∀v∈es,v.Lim):(Exp.mk o n s m ns es).Lim:=fun j=>match j with
 |0=>trivial
 |j+1=>⟨h1,h2,fun x hx=>h3 x hx j⟩
theorem Ty.lim_mk{k:Int}{fs:List fu}(h2:fs.length<=140737488355328)(h3:∀v∈fs,v.2.Lim):(Ty.mk k fs).Lim:=fun j=>match j with
 |0=>trivial
 |j+1=>⟨h2,fun x hx=>h3 x hx j⟩
theorem uN{N:Nat}(h:Rd enc Tryz.prog W N 33 (fun v:Val=>aa v.av) Val.Lim):Rd enc Tryz.prog W N 23 (fun l:List Val=>[vals l]) (fun l=>l.length<=140737488355328/\∀v∈l,v.Lim):=
 (kJ h Tryz.underlying23 (by kernel_rfl:_=4) ZM (by kernel_rfl:_=64) (ev:=Val.av) (lK fun v=>ZP)).map id (fun l=>by simp[vals,dS]) (fun l h=>⟨by grind [kK],h.2⟩)
theorem rd_val:∀N,Rd enc Tryz.prog W N 33 (fun v:Val=>aa v.av) Val.Lim
 |0=>.zero
 | N+1=>(jb Tryz.underlying33 ZR (bo (mN Tryz.underlying3) rfl (by kernel_rfl:_=1) (bo (mN Tryz.underlying3) rfl (by kernel_rfl:_=1) (bo (yL N) rfl (by kernel_rfl:_=1)
   (bo (uN (rd_val N)) rfl (by kernel_rfl:_=1) kI))))).map (fun x=>Val.mk x.1 x.2.1 x.2.2.1 x.2.2.2.1) (fun x=>ZP) (fun x h=>Val.lim_mk ZN h.2.2.2.1.1 h.2.2.2.1.2)
theorem Kj(N:Nat):Rd enc Tryz.prog W N 23 (fun l:List Val=>[vals l]) (fun l=>l.length<=140737488355328/\∀v∈l,v.Lim):=uN (rd_val N)
theorem uL{N:Nat}(h:Rd enc Tryz.prog W N 108 (fun v:Exp=>v.cells) Exp.Lim):Rd enc Tryz.prog W N 48 (fun l:List Exp=>[df l]) (fun l=>l.length<=140737488355328/\∀v∈l,v.Lim):=
 (kJ h Tryz.underlying48 (by kernel_rfl:_=6) ZM (by kernel_rfl:_=96) (ev:=Exp.av) (lK fun v=>rfl)).map id (fun l=>by simp[df,kA]) (fun l h=>⟨by grind [kK],h.2⟩)
theorem CM:∀N,Rd enc Tryz.prog W N 108 (fun v:Exp=>v.cells) Exp.Lim
 |0=>.zero
 | N+1=>(jb Tryz.underlying108 ZR (bo (mN Tryz.underlying3) rfl (by kernel_rfl:_=1) (bo (mN Tryz.underlying3) rfl (by kernel_rfl:_=1) (bo (nL Tryz.underlying9) rfl (by kernel_rfl:_=1) (bo (nL Tryz.underlying9) rfl (by kernel_rfl:_=1)
   (bo (yL N) rfl (by kernel_rfl:_=1) (bo (uL (CM N)) rfl (by kernel_rfl:_=1) kI))))))).map (fun x=>Exp.mk x.1 x.2.1 x.2.2.1 x.2.2.2.1 x.2.2.2.2.1 x.2.2.2.2.2.1) (fun x=>by grind [Exp.cells_eq,Exp.op,Exp.n,Exp.s,Exp.m,Exp.names,Exp.args]) (fun x h=>Exp.lim_mk h.2.2.2.2.1 h.2.2.2.2.2.1.1 h.2.2.2.2.2.1.2)
theorem yJ(N:Nat):Rd enc Tryz.prog W N 48 (fun l:List Exp=>[df l]) (fun l=>l.length<=140737488355328/\∀v∈l,v.Lim):=uL (CM N)
theorem uM{N:Nat}(h:Rd enc Tryz.prog W N 106 (fun v:Ty=>v.cells) Ty.Lim):Rd enc Tryz.prog W (N+1) 47 (fun l:List fu=>[bR l]) (fun l=>l.length<=140737488355328/\∀v∈l,v.2.Lim):=
 (kJ ((jb Tryz.underlying158 ZR (bo (nL Tryz.underlying9) rfl (by kernel_rfl:_=1) (bo h rfl (by kernel_rfl:_=2) kI))).map (fun x=>((x.1,x.2.1):fu)) (cells':=fun f=>aa (dU f)) (Ok':=fun f=>f.2.Lim) (fun x=>by simp[Ty.cells_eq]) (fun x h=>h.2.1))
  Tryz.underlying47 (by kernel_rfl:_=3) ZM (by kernel_rfl:_=48) (ev:=dU) (lK fun v=>ZP)).map id (fun l=>by simp[bR,kC]) (fun l h=>⟨by grind [kK],h.2⟩)
theorem H7:∀N,Rd enc Tryz.prog W N 106 (fun v:Ty=>v.cells) Ty.Lim
 |0=>.zero
 | N+1=>(jb Tryz.underlying106 ZR (bo (mN Tryz.underlying3) rfl (by kernel_rfl:_=1) (bo ((uM (H7 N)).le (Zp N)) rfl (by kernel_rfl:_=1) kI))).map (fun x=>Ty.mk x.1 x.2.1)
   (fun x=>by simp[Ty.cells_eq,Ty.kind,Ty.fields]) (fun x h=>Ty.lim_mk h.2.1.1 h.2.1.2)
theorem yK(N:Nat):Rd enc Tryz.prog W N 47 (fun l:List fu=>[bR l]) (fun l=>l.length<=140737488355328/\∀v∈l,v.2.Lim):=(uM (H7 N)).le (Zp N)
theorem N8(N:Nat):Rd enc Tryz.prog W (N+1) 110 (fun f:Fun=>aa f.av) Fun.Lim:=
 (jb Tryz.underlying110 ZR (bo (nL Tryz.underlying9) rfl (by kernel_rfl:_=1) (bo (D9 Tryz.underlying4) rfl (by kernel_rfl:_=1) (bo (yK N) rfl (by kernel_rfl:_=1) (bo (H7 N) rfl (by kernel_rfl:_=2)
  (bo (mN Tryz.underlying3) rfl (by kernel_rfl:_=1) (bo (CM N) rfl (by kernel_rfl:_=6) kI))))))).map (fun x=>(⟨x.1,x.2.1,x.2.2.1,x.2.2.2.1,x.2.2.2.2.1,x.2.2.2.2.2.1⟩:Fun))
  (fun x=>by simp[Ty.cells_eq,Exp.cells_eq]) (fun x h=>⟨h.2.2.1.1,h.2.2.1.2,h.2.2.2.1,h.2.2.2.2.2.1⟩)
theorem Kg(N:Nat):Rd enc Tryz.prog W N 49 (fun l:List Fun=>[iN l]) (fun l=>l.length<=140737488355328/\∀v∈l,v.Lim):=
 ((kJ (N8 N) Tryz.underlying49 (by kernel_rfl:_=12) ZM (by kernel_rfl:_=184) (ev:=Fun.av) (lK fun v=>rfl)).map id (fun l=>by simp[iN]) (fun l h=>⟨by grind [kK],h.2⟩)).le (Zp N)
theorem N9(N:Nat):Rd enc Tryz.prog W (N+1) 53 (fun m:Mod=>aa m.av) Mod.Lim:=
 (jb Tryz.underlying53 ZR (bo (nL Tryz.underlying9) rfl (by kernel_rfl:_=1) (bo (yL N) rfl (by kernel_rfl:_=1) (bo (yK N) rfl (by kernel_rfl:_=1) (bo (yJ N) rfl (by kernel_rfl:_=1)
  (bo (Kg N) rfl (by kernel_rfl:_=1) (bo (D9 Tryz.underlying4) rfl (by kernel_rfl:_=1)
  (bo ((jb Tryz.underlying51 ZR (bo (yK N) rfl (by kernel_rfl:_=1) (bo (yJ N) rfl (by kernel_rfl:_=1) (bo (yJ N) rfl (by kernel_rfl:_=1) kI)))).le (Zp N)) rfl (by kernel_rfl:_=3) kI)))))))).map
  (fun x=>(⟨x.1,x.2.1,x.2.2.1,x.2.2.2.1,x.2.2.2.2.1,x.2.2.2.2.2.1,x.2.2.2.2.2.2.1.1,x.2.2.2.2.2.2.1.2.1,x.2.2.2.2.2.2.1.2.2.1⟩:Mod))
  (fun x=>ZO) (fun x h=>⟨ZN,h.2.2.1.1,h.2.2.1.2,h.2.2.2.1.1,h.2.2.2.1.2,h.2.2.2.2.1.1,h.2.2.2.2.1.2,h.2.2.2.2.2.2.1.1.1,h.2.2.2.2.2.2.1.1.2,h.2.2.2.2.2.2.1.2.1.1,h.2.2.2.2.2.2.1.2.1.2,h.2.2.2.2.2.2.1.2.2.1.1,h.2.2.2.2.2.2.1.2.2.1.2⟩)
theorem Ki(N:Nat):Rd enc Tryz.prog W N 22 (fun l:List Mod=>[mods l]) (fun l=>l.length<=140737488355328/\∀v∈l,v.Lim):=
 ((kJ (N9 N) Tryz.underlying22 (by kernel_rfl:_=9) ZM (by kernel_rfl:_=192) (ev:=Mod.av) (lK fun v=>rfl)).map id (fun l=>by simp[mods]) (fun l h=>⟨by grind [kK],h.2⟩)).le (Zp N)
end
end Go.Proofs.YtbndmpiddinalaaGreatDoor
namespace Go.Proofs.YtbndmpiddinalaaGreatDoor
open Go Go.Av Go.Av.Ap
set_option maxRecDepth 100000
noncomputable section
abbrev FW(G:(List AV->M AV)->List AV->M AV):Prop:=∀vs,ak G vs=G (ak G) vs
def lB{α β:Type}{m:M α}{f:α->M β}{fs:Nat->α->M β}(hf:cJ f fs):ec (ar m f) fun n=>ar m (fs n):=ec.bnd (gf _) hf
def lA{β:Type}{f:β->M AV}{fs:Nat->β->M AV}(h:cJ f fs)(x:β):ec (f x) fun n=>fs n x:=h x
def lZ{F:(List AV->M AV)->List AV->M AV}{Fs:Nat->(List AV->M AV)->List AV->M AV}(vs:List AV)(h1:∀a b,cJ a b->∀v,ec (F a v) fun n=>Fs n (b n) v)(h2:∀a b,cJ a b->∀v,ec (F a v) fun n=>F (b n) v)(h3:∀n a b,cJ a b->∀v,ec (Fs n a v) fun k=>Fs n (b k) v):ec (ak F vs) fun n=>ak (Fs n) vs:=EW h1 h2 h3 vs
def gR{G:(List AV->M AV)->List AV->M AV}(h:∀a b,cJ a b->∀v,ec (G a v) fun n=>G (b n) v:=by intros;repeat' first|with_reducible refine lB fun _=>?_|with_reducible refine wG ?_ ?_|with_reducible exact gf _|(with_reducible refine lA ?_ _;assumption)|with_reducible (refine lZ _ ?_ ?_ ?_<;>intros)|with_reducible refine ua ?_|with_reducible refine xg ?_|with_reducible (refine ec.bnd ?_ fun _=>?_)|refine lB fun _=>?_|refine wG ?_ ?_|(refine lA ?_ _;assumption)):FW G:=fun vs=>JD h vs
def cY{k:Nat}{fn:Go.Func}{g:Ann}{xs l:List AV}{m:M AV}(h1:pg.other k=none:=by exact rfl)(h2:pg.funcs k=some (fn,g):=by exact rfl)(h3:g.iso=true:=by exact rfl)(hl:fl aE xs=l:=by exact rfl)(h:bZ (pg.cx (af pg) fn.ntmps g) ak fn (own k) l=m:=by kernel_rfl):af pg k xs=be m:=by subst hl;exact (EJ gZ h1 h2 h3 xs).trans (XY be h)
def cZ{k:Nat}{fn:Go.Func}{g:Ann}{xs:List AV}{m:M AV}(h1:pg.other k=none:=by exact rfl)(h2:pg.funcs k=some (fn,g):=by exact rfl)(h3:g.iso=false:=by exact rfl)(h:bZ (pg.cx (af pg) fn.ntmps g) ak fn (own k) xs=m:=by kernel_rfl):af pg k xs=m:=(BO gZ h1 h2 h3 xs).trans h
def S7(call:CC)(fx:bg AV)(a0 a1 a2 a3 a4:AV):M AV:=ar (call 20 [a0]) fun a=>iz a 0 fun b=>iz a 1 fun c=>bQ .neq 30 c (qi 0) (iy false 39 [] fun d=>fN 13 [] d fun e=>am (.tup [.agg (mX (aa e)),c])) (ar (call 21 [a0]) fun f=>iz f 0 fun g=>iz f 1 fun h=>bQ .neq 30 h (qi 0) (iy false 39 [] fun i=>fN 13 [] i fun j=>am (.tup [.agg (mX (aa j)),h])) (dT b fun k=>cq 81 k 2 fun l=>eG 79 l fun m=>iy false 83 [(0,a1),(1,a2)] fun n=>ar (d9 T 79 m n true) fun o=>iz o 0 fun p=>iz o 1 fun q=>iw 7 p fun r=>m0 UnOp.not q fun s=>aC s (iy false 39 [] fun u=>fN 13 [] u fun v=>am (.tup [.agg (mX (aa v)),qi 4])) (cq 76 (qc r) 2 fun w=>aL 74 w 1 3 fun x=>ar (call 22 [a3,x]) fun y=>m0 UnOp.not y fun z=>aC z (iy false 39 [] fun A=>fN 13 [] A fun B=>am (.tup [.agg (mX (aa B)),qi 13])) (ar (call 23 [a4]) fun C=>dT b fun D=>cq 81 D 0 fun E=>cq 39 E 1 fun F=>m5 28 F g fun G=>dT b fun H=>cq 81 H 0 fun I=>cq 39 I 3 fun J=>m5 24 J C fun K=>ez 76 (qc r) fun L=>ar (call 25 [a3]) fun N=>ar (call 24 [b,a1,L,N]) fun O=>dT b fun P=>cq 81 P 0 fun Q=>eG 39 Q fun R=>fN 13 [] R fun S=>am (.tup [.agg (mX (aa S)),qi 0])))))
def C7(a0 a1 a2 a3 a4:AV):af pg 7 [a0,a1,a2,a3,a4]=be (S7 (af pg) ak (cl aE a0) (cl aE a1) (cl aE a2) (cl aE a3) (cl aE a4)):=cY
def S10(call:CC)(fx:bg AV)(a0:AV):M AV:=ez 39 (qc a0) fun a=>ar (call 28 [a]) fun b=>iz b 0 fun c=>iz b 1 fun d=>am d
def C10(a0:AV):af pg 10 [a0]=be (S10 (af pg) ak (cl aE a0)):=cY
def L17_0(call:CC)(fx:bg AV)(a:RR)(b:List AV):M AV:=cH 24 (ab b 0) fun c=>bQ .lss 3 (ab b 2) c (ee 24 (ab b 0) (ab b 2) 3 fun d=>ee 24 (ab b 1) (ab b 2) 3 fun e=>bQ .neq 3 d e (am (.bool false)) (aU .add 3 (ab b 2) (qi 1) fun f=>a [ab b 0,ab b 1,f])) (am (.bool true))
def FL17_0(call:CC):FW (L17_0 call ak):=gR
def S17(call:CC)(fx:bg AV)(a0 a1:AV):M AV:=cH 24 a0 fun a=>cH 24 a1 fun b=>bQ .neq 3 a b (am (.bool false)) (fx (L17_0 call fx) [a0,a1,qi 0])
def C17(a0 a1:AV):af pg 17 [a0,a1]=be (S17 (af pg) ak (cl aE a0) (cl aE a1)):=cY
def K28_0(call:CC)(fx:bg AV)(a:RR)(b:List AV):M AV:=ez 62 (ab b 2) fun c=>ar (call 56 [ab b 1,c,ab b 3]) fun d=>m0 UnOp.not d fun e=>aC e (am (.tup [AV.nilp,.bool false])) (aU .add 3 (ab b 6) (qi 1) fun f=>a [ab b 0,ab b 1,ab b 4,ab b 5,f])
def L28_0(call:CC)(fx:bg AV)(a:RR)(b:List AV):M AV:=bQ .lss 3 (ab b 4) (ab b 3) (ee 29 (ab b 2) (ab b 4) 62 fun c=>iw 5 c fun d=>jn (K28_0 call fx a) fun e=>aU .add 3 (ab b 4) (qi 1) fun f=>aL 39 (ab b 0) 2 29 fun g=>cH 29 g fun h=>bQ .lss 3 f h (aL 39 (ab b 0) 2 29 fun i=>aU .add 3 (ab b 4) (qi 1) fun j=>kT 29 i j fun k=>e [ab b 0,ab b 1,qc d,k,ab b 2,ab b 3,ab b 4]) (e [ab b 0,ab b 1,qc d,AV.nilp,ab b 2,ab b 3,ab b 4])) (ez 39 (ab b 0) fun l=>ar (call 57 [l]) fun m=>dT (ab b 1) fun n=>cq 81 n 0 fun o=>m5 39 o m fun p=>am (.tup [ab b 1,.bool true]))
def FL28_0(call:CC):FW (L28_0 call ak):=gR
def S28(call:CC)(fx:bg AV)(a0:AV):M AV:=aL 39 (qc a0) 0 22 fun a=>ar (call 20 [a]) fun b=>iz b 0 fun c=>iz b 1 fun d=>aU .neq 30 d (qi 0) fun e=>eg e (bw 39 (qc a0) 0 22 fun f=>bw 39 (qc a0) 1 28 fun g=>ar (call 55 [f,g]) fun h=>lX UnOp.not h fun i=>am [i]) fun j=>aC j (am (.tup [AV.nilp,.bool false])) (cq 39 (qc a0) 4 fun k=>aL 37 k 1 33 fun l=>iw 4 l fun m=>cq 39 (qc a0) 4 fun n=>aL 37 n 0 30 fun o=>aU .eql 30 o (qi 0) fun p=>dP p (bw 33 (qc m) 0 3 fun q=>cN .eql 3 q (qi 0) fun r=>am [r]) fun s=>dP s (bw 33 (qc m) 1 3 fun u=>cN .eql 3 u (qi 0) fun v=>am [v]) fun w=>dP w (bw 33 (qc m) 2 31 fun x=>nI 31 x fun y=>bw 33 (qc m) 3 23 fun z=>nI 23 z fun A=>cN .add 3 y A fun B=>FY 39 (qc a0) 4 fun C=>bw 37 C 4 28 fun D=>nI 28 D fun E=>cN .add 3 B E fun F=>cN .eql 3 F (qi 0) fun G=>am [G]) fun H=>aL 39 (qc a0) 5 4 fun I=>aL 39 (qc a0) 2 29 fun J=>cH 29 J fun K=>aU .eql 3 K (qi 0) fun L=>aU .neq 4 I L fun N=>eg N (bw 39 (qc a0) 2 29 fun O=>nI 29 O fun P=>cN .gtr 3 P (qi 60) fun Q=>am [Q]) fun R=>ar (aM R false 1 (bw 39 (qc a0) 5 4 fun S=>lX UnOp.not S fun U=>am [U])) fun V=>ar (aM (ab V 0) true 1 (lX UnOp.not H fun W=>am [W])) fun X=>eg R (AQ (ab V 0) (ab X 0) (.bool false) fun Y=>am [Y]) fun Z=>aC Z (am (.tup [AV.nilp,.bool false])) (aL 39 (qc a0) 2 29 fun u0=>cH 29 u0 fun u1=>fx (L28_0 call fx) [qc a0,c,u0,u1,qi 0]))
def C28(a0:AV):af pg 28 [a0]=S28 (af pg) ak a0:=cZ
def S39(call:CC)(fx:bg AV)(a0:AV):M AV:=ez 108 (qc a0) fun a=>ar (call 90 [a,qi 120]) fun b=>aU .leq 3 b (qi 120) fun c=>dP c (yE 108 (qc a0) fun d=>ar (call 91 [d]) fun e=>am [e]) fun f=>am f
def C39(a0:AV):af pg 39 [a0]=be (S39 (af pg) ak (cl aE a0)):=cY
def L42_0(call:CC)(fx:bg AV)(a:RR)(b:RR)(c:List AV):M AV:=bQ .lss 3 (ab c 10) (ab c 9) (ee 47 (ab c 8) (ab c 10) 158 fun d=>iw 3 d fun e=>aL 158 (qc e) 0 9 fun f=>sb 31 1 [(0,f)] fun g=>ar (bP (dG T 31 (ab c 4) g)) fun h=>aU .add 3 (ab c 10) (qi 1) fun i=>b (ow c [h,ab c 5,ab c 6,ab c 7,ab c 8,ab c 9,i])) (aL 110 (ab c 2) 5 108 fun j=>ar (call 97 [ab c 3,j,ab c 4]) fun k=>iy false 138 [(0,qi 18)] fun l=>ar (call 98 [ab c 3,l]) fun m=>aL 110 (ab c 2) 0 9 fun n=>aL 110 (ab c 2) 2 47 fun o=>cH 47 o fun p=>dT (ab c 3) fun q=>cq 183 q 2 fun r=>eG 3 r fun s=>dT (ab c 3) fun u=>cq 183 u 1 fun v=>eG 72 v fun w=>iy false 74 [(0,n),(1,p),(2,s),(3,w)] fun x=>sb 116 1 [(0,x)] fun y=>ar (bP (dG T 116 (ab c 1) y)) fun z=>aU .add 3 (ab c 7) (qi 1) fun A=>a [ab c 0,z,ab c 5,ab c 6,A])
def L42_1(call:CC)(fx:bg AV)(a:RR)(b:List AV):M AV:=bQ .lss 3 (ab b 4) (ab b 3) (ee 49 (ab b 2) (ab b 4) 110 fun c=>iw 12 c fun d=>aL 53 (ab b 0) 2 47 fun e=>aL 110 (qc d) 2 47 fun f=>cH 47 f fun g=>iy true 183 [(0,e),(2,g)] fun h=>ar (newH (aa h)) fun i=>aL 110 (qc d) 2 47 fun j=>cH 47 j fun k=>fx (L42_0 call fx a) [ab b 0,ab b 1,qc d,i,.sl [],ab b 2,ab b 3,ab b 4,j,k,qi 0]) (am (ab b 1))
def FL42_0(call:CC)(a:RR):FW (L42_0 call ak a):=gR
def FL42_1(call:CC):FW (L42_1 call ak):=gR
def S42(call:CC)(fx:bg AV)(a0:AV):M AV:=ez 53 (qc a0) fun a=>ar (call 41 [a]) fun b=>m0 UnOp.not b fun c=>aC c (am (.sl [])) (aL 53 (qc a0) 4 49 fun d=>cH 49 d fun e=>fx (L42_1 call fx) [qc a0,.sl [],d,e,qi 0])
def C42(a0:AV):af pg 42 [a0]=be (S42 (af pg) ak (cl aE a0)):=cY
def S48(call:CC)(fx:bg AV)(a0:AV):M AV:=ez 33 (qc a0) fun a=>ar (call 49 [a]) fun b=>m0 UnOp.not b fun c=>am c
def C48(a0:AV):af pg 48 [a0]=be (S48 (af pg) ak (cl aE a0)):=cY
def L52_0(call:CC)(fx:bg AV)(a:RR)(b:List AV):M AV:=cH 47 (ab b 0) fun c=>bQ .lss 3 (ab b 2) c (kT 47 (ab b 0) (ab b 2) fun d=>aL 158 d 0 9 fun e=>kT 47 (ab b 1) (ab b 2) fun f=>aL 158 f 0 9 fun g=>aU .neq 9 e g fun h=>eg h (yD 47 (ab b 0) (ab b 2) fun i=>bw 158 i 1 106 fun j=>yD 47 (ab b 1) (ab b 2) fun k=>bw 158 k 1 106 fun l=>ar (dx (call 109 [j,l])) fun m=>lX UnOp.not m fun n=>am [n]) fun o=>aC o (am (.bool false)) (aU .add 3 (ab b 2) (qi 1) fun p=>a [ab b 0,ab b 1,p])) (am (.bool true))
def FL52_0(call:CC):FW (L52_0 call ak):=gR
def S52(call:CC)(fx:bg AV)(a0 a1:AV):M AV:=cH 47 a0 fun a=>cH 47 a1 fun b=>bQ .neq 3 a b (am (.bool false)) (fx (L52_0 call fx) [a0,a1,qi 0])
def C52(a0 a1:AV):af pg 52 [a0,a1]=be (S52 (af pg) ak (cl aE a0) (cl aE a1)):=cY
def L57_0(call:CC)(fx:bg AV)(a:RR)(b:List AV):M AV:=bQ .lss 3 (ab b 1) (ab b 0) (kT 29 (ab b 4) (ab b 1) fun c=>dT c fun d=>cq 62 d 3 fun e=>eG 23 e fun f=>dT c fun g=>cq 62 g 4 fun h=>eG 23 h fun i=>ar (call 25 [f]) fun j=>ar (call 25 [i]) fun k=>dT c fun l=>cq 62 l 3 fun m=>m5 23 m j fun n=>dT c fun o=>cq 62 o 4 fun p=>m5 23 p k fun q=>aU .add 3 (ab b 1) (qi 1) fun r=>a [ab b 0,r,ab b 2,ab b 3,ab b 4,ab b 5,ab b 6,ab b 7,ab b 8,ab b 9,ab b 10,ab b 11,ab b 12,ab b 13,ab b 14,ab b 15,ab b 16,ab b 17,ab b 18,ab b 19,ab b 20,ab b 21,ab b 22,ab b 23,ab b 24,ab b 25,ab b 26,ab b 27]) (ar (call 113 [ab b 11]) fun s=>ar (call 114 [ab b 12]) fun u=>ar (call 111 [ab b 13]) fun v=>AW s fun w=>AW u fun x=>AW v fun y=>fN 13 [] (.agg [ab b 2,ab b 3,ab b 4,ab b 5,ab b 6,ab b 7,ab b 8,ab b 9,ab b 10,s,u,v,ab b 14]) fun z=>am (.agg (mX (aa z))))
def FL57_0(call:CC):FW (L57_0 call ak):=gR
def S57(call:CC)(fx:bg AV)(a0:AV):M AV:=iw 13 a0 fun a=>ar (call 44 [ab (aa a) 0]) fun b=>AW b fun c=>ar (call 111 [ab (aa a) 1]) fun d=>AW d fun e=>ar (call 23 [ab (aa a) 3]) fun f=>AW f fun g=>ar (call 112 [ab (aa a) 2]) fun h=>AW h fun i=>cH 29 h fun j=>fx (L57_0 call fx) [j,qi 0,b,d,h,f,ab (aa a) 4,ab (aa a) 5,ab (aa a) 6,ab (aa a) 7,ab (aa a) 8,ab (aa a) 9,ab (aa a) 10,ab (aa a) 11,ab (aa a) 12,.sl [],.sl [],.sl [],.sl [],qi 0,qi 0,qi 0,.sl [],.sl [],.sl [],.sl [],.sl [],.bool false]
def C57(a0:AV):af pg 57 [a0]=S57 (af pg) ak a0:=cZ
def L90_0(call:CC)(fx:bg AV)(a:RR)(b:List AV):M AV:=aL 108 (ab b 1) 5 48 fun c=>cH 48 c fun d=>aU .lss 3 (ab b 3) d fun e=>dP e (cN .leq 3 (ab b 2) (ab b 0) fun f=>am [f]) fun g=>aC g (aL 108 (ab b 1) 5 48 fun h=>ee 48 h (ab b 3) 108 fun i=>aU .sub 3 (ab b 0) (ab b 2) fun j=>ar (call 90 [i,j]) fun k=>aU .add 3 (ab b 2) k fun l=>aU .add 3 (ab b 3) (qi 1) fun m=>a [ab b 0,ab b 1,l,m]) (am (ab b 2))
def FL90_0(call:CC):FW (L90_0 call ak):=gR
def S90(call:CC)(fx:bg AV)(a0 a1:AV):M AV:=fx (L90_0 call fx) [a1,qc a0,qi 1,qi 0]
theorem C90(a0 a1:AV):af pg 90 [a0,a1]=be (S90 (af pg) ak (cl aE a0) (cl aE a1)):=cY
def L93_0(call:CC)(fx:bg AV)(a:RR)(b:List AV):M AV:=bQ .lss 3 (ab b 5) (ab b 4) (ee 47 (ab b 3) (ab b 5) 158 fun c=>iw 3 c fun d=>aL 158 (qc d) 0 9 fun e=>ar (d9 T 153 (ab b 2) e false) fun f=>eg f (bw 158 (qc d) 0 9 fun g=>ar (call 92 [g]) fun h=>lX UnOp.not h fun i=>am [i]) fun j=>eg j (bw 158 (qc d) 1 106 fun k=>ar (call 94 [k]) fun l=>lX UnOp.not l fun m=>am [m]) fun n=>aC n (am (.bool false)) (aL 158 (qc d) 0 9 fun o=>ar (ou T 153 (ab b 2) o (.bool true)) fun p=>aU .add 3 (ab b 5) (qi 1) fun q=>a (vX b [q]))) (cH 47 (ab b 0) fun r=>aU .leq 3 r (ab b 1) fun s=>am s)
def FL93_0(call:CC):FW (L93_0 call ak):=gR
def S93(call:CC)(fx:bg AV)(a0 a1:AV):M AV:=ar fW fun a=>cH 47 a0 fun b=>fx (L93_0 call fx) [a0,a1,a,a0,b,qi 0]
def C93(a0 a1:AV):af pg 93 [a0,a1]=be (S93 (af pg) ak (cl aE a0) (cl aE a1)):=cY
def S94(call:CC)(fx:bg AV)(a0:AV):M AV:=ez 106 (qc a0) fun a=>ar (call 150 [a,qi 4]) fun b=>am b
def C94(a0:AV):af pg 94 [a0]=be (S94 (af pg) ak (cl aE a0)):=cY
def S97(call:CC)(fx:bg AV)(a0 a1 a2:AV):M AV:=aL 108 (qc a1) 0 3 fun a=>bQ .eql 3 a (qi 0) (aL 108 (qc a1) 1 3 fun b=>iy false 138 [(0,qi 0),(1,b)] fun c=>ar (call 98 [a0,c]) fun d=>am (.tup [])) (bQ .eql 3 a (qi 1) (aL 108 (qc a1) 1 3 fun e=>iy false 138 [(0,qi 1),(1,e)] fun f=>ar (call 98 [a0,f]) fun g=>am (.tup [])) (bQ .eql 3 a (qi 2) (aL 108 (qc a1) 2 9 fun h=>ar (call 153 [a2,h]) fun i=>iy false 138 [(0,qi 2),(1,i)] fun j=>ar (call 98 [a0,j]) fun k=>am (.tup [])) (bQ .eql 3 a (qi 17) (aL 108 (qc a1) 2 9 fun l=>ar (call 154 [a0,l]) fun m=>iy false 138 [(0,qi 16),(1,m)] fun n=>ar (call 98 [a0,n]) fun o=>am (.tup [])) (bQ .eql 3 a (qi 8) (aL 108 (qc a1) 5 48 fun p=>ee 48 p (qi 0) 108 fun q=>ar (call 97 [a0,q,a2]) fun r=>aL 108 (qc a1) 5 48 fun s=>ee 48 s (qi 1) 108 fun u=>ar (cS (zK call) (.fn (Fn.func 152) [] []) [qi 0]) fun v=>ar (call 155 [a0,u,v,a2]) fun w=>am (.tup [])) (bQ .eql 3 a (qi 9) (aL 108 (qc a1) 5 48 fun x=>ee 48 x (qi 0) 108 fun y=>ar (call 97 [a0,y,a2]) fun z=>aL 108 (qc a1) 5 48 fun A=>ee 48 A (qi 1) 108 fun B=>ar (cS (zK call) (.fn (Fn.func 152) [] []) [qi 1]) fun C=>ar (call 155 [a0,C,B,a2]) fun D=>am (.tup [])) (bQ .eql 3 a (qi 11) (aL 108 (qc a1) 5 48 fun E=>ee 48 E (qi 0) 108 fun F=>ar (call 97 [a0,F,a2]) fun G=>aL 108 (qc a1) 5 48 fun H=>ee 48 H (qi 1) 108 fun I=>aL 108 (qc a1) 5 48 fun J=>ee 48 J (qi 2) 108 fun K=>ar (call 155 [a0,I,K,a2]) fun L=>am (.tup [])) (bQ .eql 3 a (qi 12) (aL 108 (qc a1) 5 48 fun N=>ee 48 N (qi 0) 108 fun O=>ar (call 97 [a0,O,a2]) fun P=>cH 31 a2 fun Q=>iy false 138 [(0,qi 3),(1,Q)] fun R=>ar (call 98 [a0,R]) fun S=>dT a0 fun U=>cq 183 U 2 fun V=>eG 3 V fun W=>cH 31 a2 fun X=>aU .add 3 X (qi 1) fun Y=>ar (bP (jU true [W,Y])) fun Z=>dT a0 fun u0=>cq 183 u0 2 fun u1=>m5 3 u1 Z fun u2=>aL 108 (qc a1) 5 48 fun u3=>ee 48 u3 (qi 1) 108 fun u4=>aL 108 (qc a1) 2 9 fun u5=>sb 31 1 [(0,u5)] fun u6=>ar (call 119 [a2]) fun u7=>ar (bP (dG T 31 u7 u6)) fun u8=>ar (call 97 [a0,u4,u8]) fun u9=>am (.tup [])) (aL 108 (qc a1) 5 48 fun v0=>ar (call 156 [a0,v0,a2]) fun v2=>ez 108 (qc a1) fun v3=>ar (call 157 [a0,v3]) fun v7=>ar (call 98 [a0,v7]) fun v8=>am (.tup [])))))))))
def C97(a0 a1 a2:AV):af pg 97 [a0,a1,a2]=S97 (af pg) ak a0 a1 a2:=cZ
def S108(call:CC)(fx:bg AV)(a0 a1:AV):M AV:=ez 3 (qc a1) fun a=>bQ .eql 3 a (qi 0) (am (.bool false)) (aL 33 (qc a0) 0 3 fun b=>aU .eql 3 b (qi 0) fun c=>eg c (bw 33 (qc a0) 0 3 fun d=>cN .eql 3 d (qi 1) fun e=>am [e]) fun f=>aC f (aL 33 (qc a0) 2 31 fun g=>cH 31 g fun h=>aU .eql 3 h (qi 0) fun i=>dP i (bw 33 (qc a0) 3 23 fun j=>nI 23 j fun k=>cN .eql 3 k (qi 0) fun l=>am [l]) fun m=>ar (aM m true 1 (bw 33 (qc a0) 0 3 fun n=>cN .eql 3 n (qi 0) fun o=>am [o])) fun p=>ar (aM (ab p 0) false 1 (bw 33 (qc a0) 1 3 fun q=>cN .eql 3 q (qi 0) fun r=>am [r])) fun s=>ar (aM m true 1 (AQ (ab p 0) (.bool true) (ab s 0) fun u=>am [u])) fun v=>ar (aM (ab v 0) false 1 (bw 33 (qc a0) 1 3 fun w=>cN .eql 3 w (qi 1) fun x=>am [x])) fun y=>dP m (AQ (ab v 0) (.bool true) (ab y 0) fun z=>am [z]) fun A=>am A) (aL 33 (qc a0) 0 3 fun B=>aU .neq 3 B (qi 2) fun C=>eg C (bw 33 (qc a0) 1 3 fun D=>cN .neq 3 D (qi 0) fun E=>am [E]) fun F=>eg F (bw 33 (qc a0) 2 31 fun G=>nI 31 G fun H=>bw 33 (qc a0) 3 23 fun I=>nI 23 I fun J=>cN .neq 3 H J fun K=>am [K]) fun L=>eg L (bw 33 (qc a0) 2 31 fun N=>nI 31 N fun O=>cN .gtr 3 O (qi 8) fun P=>am [P]) fun Q=>eg Q (bw 33 (qc a0) 2 31 fun R=>ar (call 168 [R]) fun S=>lX UnOp.not S fun U=>am [U]) fun V=>aC V (am (.bool false)) (aL 33 (qc a0) 3 23 fun W=>ar (call 47 [W,.fn (Fn.func 169) [] [qc a1]]) fun X=>m0 UnOp.not X fun Y=>am Y)))
def C108(a0 a1:AV):af pg 108 [a0,a1]=be (S108 (af pg) ak (cl aE a0) (cl aE a1)):=cY
def L111_0(call:CC)(fx:bg AV)(a:RR)(b:List AV):M AV:=bQ .lss 3 (ab b 3) (ab b 2) (kT 28 (ab b 1) (ab b 3) fun c=>eG 58 c fun d=>iw 2 d fun e=>aL 58 (qc e) 0 9 fun f=>aL 58 (qc e) 1 23 fun g=>ar (call 25 [g]) fun h=>iy false 58 [(0,f),(1,h)] fun i=>sb 28 1 [(0,i)] fun j=>ar (appH T 28 false (ab b 0) j) fun k=>aU .add 3 (ab b 3) (qi 1) fun l=>a [k,ab b 1,ab b 2,l]) (am (ab b 0))
def FL111_0(call:CC):FW (L111_0 call ak):=gR
def S111(call:CC)(fx:bg AV)(a0:AV):M AV:=cH 28 a0 fun a=>fx (L111_0 call fx) [.hn,a0,a,qi 0]
def C111(a0:AV):af pg 111 [a0]=S111 (af pg) ak a0:=cZ
def S115(call:CC)(fx:bg AV)(a0 a1:AV):M AV:=dT a0 fun a=>cq 62 a 4 fun b=>eG 23 b fun c=>ez 33 (qc a1) fun d=>cH 23 c fun e=>sb 23 1 [(0,.agg [qi 0,qi 0,.sl [],.sl []])] fun f=>ar (appH T 23 false c f) fun g=>kT 23 g e fun h=>ar (l8 T true 33 h d) fun i=>dT a0 fun j=>cq 62 j 4 fun k=>ar (l8 T false 23 k g) fun l=>am (.tup [])
def C115(a0 a1:AV):af pg 115 [a0,a1]=S115 (af pg) ak a0 a1:=cZ
def K121_0(call:CC)(fx:bg AV)(a:List AV):M AV:=dT (ab a 0) fun b=>cq 81 b 2 fun c=>eG 79 c fun d=>aL 138 (ab a 2) 2 9 fun e=>iy false 83 [(0,ab a 3),(1,e)] fun f=>ar (d9 T 79 d f true) fun g=>iz g 0 fun h=>iz g 1 fun i=>iw 7 h fun j=>m0 UnOp.not i fun k=>ar (aM k false 1 (bw 138 (ab a 2) 3 9 fun l=>cN .neq 9 l (.str []) fun m=>am [m])) fun n=>ar (aM (ab n 0) true 1 (bw 76 (qc j) 1 4 fun o=>lX UnOp.not o fun p=>am [p])) fun q=>eg k (AQ (ab n 0) (ab q 0) (.bool false) fun r=>am [r]) fun s=>aC s (am (qi 12)) (cq 76 (qc j) 2 fun u=>aL 74 u 1 3 fun v=>aL 138 (ab a 2) 1 3 fun w=>bQ .neq 3 v w (am (qi 13)) (dT (ab a 0) fun x=>cq 81 x 0 fun y=>cq 39 y 2 fun z=>eG 29 z fun A=>cH 29 A fun B=>bQ .geq 3 B (qi 60) (am (qi 6)) (ez 76 (qc j) fun C=>aL 138 (ab a 2) 1 3 fun D=>ar (call 117 [ab a 1,D]) fun E=>ar (call 24 [ab a 0,ab a 3,C,E]) fun F=>am (qi 0))))
def S121(call:CC)(fx:bg AV)(a0 a1 a2:AV):M AV:=aL 138 (qc a2) 3 9 fun a=>jn (K121_0 call fx) fun b=>bQ .eql 9 a (.str []) (dT a1 fun c=>cq 62 c 0 fun d=>eG 9 d fun e=>b [a0,a1,qc a2,e]) (b [a0,a1,qc a2,a])
def C121(a0 a1 a2:AV):af pg 121 [a0,a1,a2]=S121 (af pg) ak a0 a1 a2:=cZ
def S145(call:CC)(fx:bg AV)(a0 a1:AV):M AV:=aL 110 (qc a0) 0 9 fun a=>ez 9 a1 fun b=>aU .eql 9 a b fun c=>am c
def C145(a0 a1:AV):af pg 145 [a0,a1]=be (S145 (af pg) ak (cl aE a0) (cl aE a1)):=cY
def S155(call:CC)(fx:bg AV)(a0 a1 a2 a3:AV):M AV:=iy false 138 [(0,qi 11)] fun a=>ar (call 98 [a0,a]) fun b=>ez 108 (qc a1) fun c=>ar (call 97 [a0,c,a3]) fun d=>iy false 138 [(0,qi 10)] fun e=>ar (call 98 [a0,e]) fun f=>dT a0 fun g=>cq 183 g 1 fun h=>eG 72 h fun i=>dT a0 fun j=>cq 183 j 1 fun k=>eG 72 k fun l=>cH 72 l fun m=>kT 72 i b fun n=>cq 138 n 1 fun o=>m5 3 o m fun p=>ez 108 (qc a2) fun q=>ar (call 97 [a0,q,a3]) fun r=>dT a0 fun s=>cq 183 s 1 fun u=>eG 72 u fun v=>dT a0 fun w=>cq 183 w 1 fun x=>eG 72 x fun y=>cH 72 y fun z=>kT 72 v f fun A=>cq 138 A 1 fun B=>m5 3 B z fun C=>am (.tup [])
def C155(a0 a1 a2 a3:AV):af pg 155 [a0,a1,a2,a3]=S155 (af pg) ak a0 a1 a2 a3:=cZ
def L156_0(call:CC)(fx:bg AV)(a:RR)(b:List AV):M AV:=bQ .lss 3 (ab b 4) (ab b 3) (ee 48 (ab b 2) (ab b 4) 108 fun c=>iw 6 c fun d=>ez 108 (qc d) fun e=>ar (call 97 [ab b 0,e,ab b 1]) fun f=>aU .add 3 (ab b 4) (qi 1) fun g=>a (ow b [g])) (am (.tup []))
def FL156_0(call:CC):FW (L156_0 call ak):=gR
def S156(call:CC)(fx:bg AV)(a0 a1 a2:AV):M AV:=cH 48 a1 fun a=>fx (L156_0 call fx) [a0,a2,a1,a,qi 0]
def C156(a0 a1 a2:AV):af pg 156 [a0,a1,a2]=S156 (af pg) ak a0 a1 a2:=cZ
def S160(call:CC)(fx:bg AV)(a0:AV):M AV:=iy false 33 [(0,qi 0),(1,a0)] fun a=>fN 4 [] a fun b=>am (.agg (gq (aa b)))
def C160(a0:AV):af pg 160 [a0]=be (S160 (af pg) ak (cl aE a0)):=cY
def L183_0(call:CC)(fx:bg AV)(a:RR)(b:List AV):M AV:=bQ .lss 3 (ab b 3) (ab b 2) (ee 23 (ab b 1) (ab b 3) 33 fun c=>iw 4 c fun d=>ez 33 (qc d) fun e=>ar (call 183 [e]) fun f=>ar (bP (jU true [ab b 0,f])) fun g=>aU .add 3 (ab b 3) (qi 1) fun h=>a [g,ab b 1,ab b 2,h]) (aU .add 3 (ab b 0) (qi 1) fun i=>am i)
def FL183_0(call:CC):FW (L183_0 call ak):=gR
def S183(call:CC)(fx:bg AV)(a0:AV):M AV:=aL 33 (qc a0) 3 23 fun a=>cH 23 a fun b=>fx (L183_0 call fx) [qi 0,a,b,qi 0]
def C183(a0:AV):af pg 183 [a0]=be (S183 (af pg) ak (cl aE a0)):=cY
def S4(call:CC)(fx:bg AV):M AV:=ar (call 12 [.str [109,111,100,117,108,101,32,109,32,59,32,118,97,114,32,110,32,105,110,116,32,61,32,53,32,59,32,112,117,98,32,102,110,32,102,32,40,32,107,32,105,110,116,32,41,32,105,110,116,32,33,32,110,101,116,32,61,32,115,101,116,32,110,32,103,101,116,32,110,32,43,32,110,101,116,32,40,32,107,32,41,32,59]]) fun v0=>iz v0 0 fun v1=>iz v0 1 fun v2=>iz v0 2 fun v3=>iw 9 v1 fun v4=>ez 53 (qc v4) fun v5=>sb 22 1 [(0,v5)] fun v6=>ar (call 13 [qi 2]) fun v7=>sb 23 1 [(0,v7)] fun v8=>sb 24 2 [(0,qi 7),(1,qi 8)] fun v9=>ar (call 7 [v6,.str [109],.str [102],v8,v9]) fun v10=>iz v10 0 fun v11=>iz v10 1 fun v12=>iw 13 v11 fun v13=>ez 39 (qc v13) fun v14=>ar (call 9 [v14,qi 6]) fun v15=>iz v15 0 fun v16=>iz v15 1 fun v17=>iw 13 v16 fun v18=>ez 39 (qc v13) fun v19=>ar (call 9 [v19,qi 3]) fun v20=>iz v20 0 fun v21=>iz v20 1 fun v22=>iw 13 v21 fun v23=>ez 39 (qc v18) fun v24=>ar (call 11 [v24]) fun v25=>iz v25 0 fun v26=>iz v25 1 fun v27=>iw 13 v26 fun v28=>ar (call 7 [v6,.str [109],.str [102],.sl [],.sl []]) fun v29=>iz v29 0 fun v30=>iz v29 1 fun v31=>iw 13 v30 fun v32=>ar (call 7 [v6,.str [109],.str [103],.sl [],.sl []]) fun v33=>iz v33 0 fun v34=>iz v33 1 fun v35=>iw 13 v34 fun v36=>aL 39 (qc v23) 2 29 fun v38=>cH 29 v38 fun v39=>aU .neq 3 v39 (qi 1) fun v40=>eg v40 (bw 39 (qc v23) 1 28 fun v42=>nI 28 v42 fun v43=>cN .neq 3 v43 (qi 1) fun v44=>am [v44]) fun v46=>aC v46 (am (.bool false)) (aL 39 (qc v23) 1 28 fun v48=>kT 28 v48 (qi 0) fun v49=>aL 58 v49 1 23 fun v51=>cH 23 v51 fun v52=>bQ .neq 3 v52 (qi 1) (am (.bool false)) (aU .eql 30 v3 (qi 0) fun v54=>dP v54 (cN .eql 30 v12 (qi 0) fun v55=>am [v55]) fun v57=>dP v57 (cN .eql 30 v17 (qi 0) fun v58=>am [v58]) fun v60=>dP v60 (cN .eql 30 v22 (qi 16) fun v61=>am [v61]) fun v63=>dP v63 (cN .eql 30 v27 (qi 7) fun v64=>am [v64]) fun v66=>dP v66 (cN .eql 30 v31 (qi 13) fun v67=>am [v67]) fun v69=>dP v69 (cN .eql 30 v35 (qi 4) fun v70=>am [v70]) fun v72=>dP v72 (bw 39 (qc v18) 5 4 fun v74=>am [v74]) fun v76=>dP v76 (bw 39 (qc v18) 4 37 fun v78=>VO 24 2 [(0,qi 7),(1,qi 8)] fun v79=>ar (dx (call 15 [v6,.str [109],.str [102],v8,v79,qi 100])) fun v80=>ar (dx (call 14 [v78,v80])) fun v81=>am [v81]) fun v83=>cq 39 (qc v18) 4 fun v84=>cq 37 v84 1 fun v85=>aL 33 v85 1 3 fun v87=>aU .eql 3 v87 (qi 12) fun v88=>dP v88 (bw 39 (qc v23) 2 29 fun v90=>yD 29 v90 (qi 0) fun v91=>bw 62 v91 2 3 fun v93=>cN .eql 3 v93 (qi 3) fun v94=>am [v94]) fun v96=>dP v96 (bw 39 (qc v23) 2 29 fun v98=>yD 29 v98 (qi 0) fun v99=>bw 62 v99 4 23 fun v101=>ar (dx (call 13 [qi 5])) fun v102=>ar (dx (call 13 [qi 7])) fun v103=>VO 23 2 [(0,v102),(1,v103)] fun v104=>ar (dx (call 16 [v101,v104])) fun v105=>am [v105]) fun v107=>dP v107 (bw 39 (qc v23) 3 24 fun v109=>VO 24 1 [(0,qi 8)] fun v110=>ar (dx (call 17 [v109,v110])) fun v111=>am [v111]) fun v113=>dP v113 (bw 39 (qc v23) 1 28 fun v115=>yD 28 v115 (qi 0) fun v116=>bw 58 v116 1 23 fun v118=>yD 23 v118 (qi 0) fun v119=>bw 33 v119 1 3 fun v121=>cN .eql 3 v121 (qi 5) fun v122=>am [v122]) fun v124=>dP v83 (am [v124]) fun v126=>dP v126 (yE 39 (qc v13) fun v127=>ar (call 10 [v127]) fun v128=>am [v128]) fun v130=>dP v130 (yE 39 (qc v18) fun v131=>ar (call 10 [v131]) fun v132=>am [v132]) fun v134=>dP v134 (Ti false 39 [] fun v135=>ar (call 10 [v135]) fun v136=>lX UnOp.not v136 fun v137=>am [v137]) fun v139=>am v139))
def C4:af pg 4 []=be (S4 (af pg) ak):=cY
def L6_0(call:CC)(fx:bg AV)(a:RR)(b:List AV):M AV:=cH 23 (ab b 0) fun c=>aU .lss 3 (ab b 2) c fun d=>dP d (cN .leq 3 (ab b 2) (ab b 1) fun e=>am [e]) fun f=>aC f (ee 23 (ab b 0) (ab b 2) 33 fun g=>ar (call 19 [g,qi 100]) fun h=>aU .gtr 3 h (qi 100) fun i=>eg i (yD 23 (ab b 0) (ab b 2) fun j=>bw 33 j 2 31 fun k=>nI 31 k fun l=>cN .gtr 3 l (qi 20) fun m=>am [m]) fun n=>aC n (am (.bool false)) (aU .add 3 (ab b 2) (qi 1) fun o=>a [ab b 0,ab b 1,o])) (cH 23 (ab b 0) fun p=>aU .leq 3 p (ab b 1) fun q=>am q)
def FL6_0(call:CC):FW (L6_0 call ak):=gR
def S6(call:CC)(fx:bg AV)(a0 a1:AV):M AV:=fx (L6_0 call fx) [a0,a1,qi 0]
def C6(a0 a1:AV):af pg 6 [a0,a1]=be (S6 (af pg) ak (cl aE a0) (cl aE a1)):=cY
def L8_0(call:CC)(fx:bg AV)(a:RR)(b:List AV):M AV:=aL 39 (ab b 0) 2 29 fun c=>cH 29 c fun d=>bQ .lss 3 (ab b 2) d (aL 39 (ab b 0) 2 29 fun e=>ee 29 e (ab b 2) 62 fun f=>iw 5 f fun g=>aL 39 (ab b 1) 2 29 fun h=>ee 29 h (ab b 2) 62 fun i=>iw 5 i fun j=>aL 62 (qc g) 0 9 fun k=>aL 62 (qc j) 0 9 fun l=>aU .neq 9 k l fun m=>eg m (bw 62 (qc g) 1 9 fun n=>bw 62 (qc j) 1 9 fun o=>cN .neq 9 n o fun p=>am [p]) fun q=>eg q (bw 62 (qc g) 2 3 fun r=>bw 62 (qc j) 2 3 fun s=>cN .neq 3 r s fun u=>am [u]) fun v=>eg v (bw 62 (qc g) 3 23 fun w=>bw 62 (qc j) 3 23 fun x=>ar (call 16 [w,x]) fun y=>lX UnOp.not y fun z=>am [z]) fun A=>eg A (bw 62 (qc g) 4 23 fun B=>bw 62 (qc j) 4 23 fun C=>ar (call 16 [B,C]) fun D=>lX UnOp.not D fun E=>am [E]) fun F=>aC F (am (.bool false)) (aU .add 3 (ab b 2) (qi 1) fun G=>a [ab b 0,ab b 1,G])) (aL 39 (ab b 0) 4 37 fun H=>aL 39 (ab b 1) 4 37 fun I=>ar (call 14 [H,I]) fun J=>am J)
def L8_1(call:CC)(fx:bg AV)(a:RR)(b:List AV):M AV:=aL 39 (ab b 0) 0 22 fun c=>cH 22 c fun d=>bQ .lss 3 (ab b 2) d (aL 39 (ab b 0) 0 22 fun e=>ee 22 e (ab b 2) 53 fun f=>aL 39 (ab b 1) 0 22 fun g=>ee 22 g (ab b 2) 53 fun h=>ar (dx (call 27 [f,h])) fun i=>m0 UnOp.not i fun j=>aC j (am (.bool false)) (aU .add 3 (ab b 2) (qi 1) fun k=>a [ab b 0,ab b 1,k])) (fx (L8_0 call fx) [ab b 0,ab b 1,qi 0])
def FL8_0(call:CC):FW (L8_0 call ak):=gR
def FL8_1(call:CC):FW (L8_1 call ak):=gR
def S8(call:CC)(fx:bg AV)(a0 a1:AV):M AV:=aL 39 (qc a0) 0 22 fun a=>cH 22 a fun b=>aL 39 (qc a1) 0 22 fun c=>cH 22 c fun d=>aU .neq 3 b d fun e=>eg e (bw 39 (qc a0) 2 29 fun f=>nI 29 f fun g=>bw 39 (qc a1) 2 29 fun h=>nI 29 h fun i=>cN .neq 3 g i fun j=>am [j]) fun k=>eg k (bw 39 (qc a0) 5 4 fun l=>bw 39 (qc a1) 5 4 fun m=>cN .neq 4 l m fun n=>am [n]) fun o=>eg o (bw 39 (qc a0) 3 24 fun p=>bw 39 (qc a1) 3 24 fun q=>ar (call 17 [p,q]) fun r=>lX UnOp.not r fun s=>am [s]) fun u=>eg u (bw 39 (qc a0) 1 28 fun v=>bw 39 (qc a1) 1 28 fun w=>ar (call 26 [v,w]) fun x=>lX UnOp.not x fun y=>am [y]) fun z=>aC z (am (.bool false)) (fx (L8_1 call fx) [qc a0,qc a1,qi 0])
def C8(a0 a1:AV):af pg 8 [a0,a1]=be (S8 (af pg) ak (cl aE a0) (cl aE a1)):=cY
def S13(call:CC)(fx:bg AV)(a0:AV):M AV:=iy false 33 [(0,qi 0),(1,a0)] fun a=>fN 4 [] a fun b=>am (.agg (gq (aa b)))
def C13(a0:AV):af pg 13 [a0]=be (S13 (af pg) ak (cl aE a0)):=cY
def L16_0(call:CC)(fx:bg AV)(a:RR)(b:List AV):M AV:=cH 23 (ab b 0) fun c=>bQ .lss 3 (ab b 2) c (ee 23 (ab b 0) (ab b 2) 33 fun d=>ee 23 (ab b 1) (ab b 2) 33 fun e=>ar (dx (call 34 [d,e])) fun f=>m0 UnOp.not f fun g=>aC g (am (.bool false)) (aU .add 3 (ab b 2) (qi 1) fun h=>a [ab b 0,ab b 1,h])) (am (.bool true))
def FL16_0(call:CC):FW (L16_0 call ak):=gR
def S16(call:CC)(fx:bg AV)(a0 a1:AV):M AV:=cH 23 a0 fun a=>cH 23 a1 fun b=>bQ .neq 3 a b (am (.bool false)) (fx (L16_0 call fx) [a0,a1,qi 0])
def C16(a0 a1:AV):af pg 16 [a0,a1]=be (S16 (af pg) ak (cl aE a0) (cl aE a1)):=cY
def L19_0(call:CC)(fx:bg AV)(a:RR)(b:List AV):M AV:=aL 33 (ab b 1) 3 23 fun c=>cH 23 c fun d=>aU .lss 3 (ab b 3) d fun e=>dP e (cN .leq 3 (ab b 2) (ab b 0) fun f=>am [f]) fun g=>aC g (aL 33 (ab b 1) 3 23 fun h=>ee 23 h (ab b 3) 33 fun i=>aU .sub 3 (ab b 0) (ab b 2) fun j=>ar (call 19 [i,j]) fun k=>aU .add 3 (ab b 2) k fun l=>aU .add 3 (ab b 3) (qi 1) fun m=>a [ab b 0,ab b 1,l,m]) (am (ab b 2))
def FL19_0(call:CC):FW (L19_0 call ak):=gR
def S19(call:CC)(fx:bg AV)(a0 a1:AV):M AV:=fx (L19_0 call fx) [a1,qc a0,qi 1,qi 0]
def C19(a0 a1:AV):af pg 19 [a0,a1]=be (S19 (af pg) ak (cl aE a0) (cl aE a1)):=cY
def L27_0(call:CC)(fx:bg AV)(a:RR)(b:List AV):M AV:=aL 53 (ab b 0) 4 49 fun c=>cH 49 c fun d=>bQ .lss 3 (ab b 2) d (aL 53 (ab b 0) 4 49 fun e=>ee 49 e (ab b 2) 110 fun f=>aL 53 (ab b 1) 4 49 fun g=>ee 49 g (ab b 2) 110 fun h=>ar (dx (call 51 [f,h])) fun i=>m0 UnOp.not i fun j=>aC j (am (.bool false)) (aU .add 3 (ab b 2) (qi 1) fun k=>a [ab b 0,ab b 1,k])) (cq 53 (ab b 0) 6 fun l=>aL 51 l 0 47 fun m=>cq 53 (ab b 1) 6 fun n=>aL 51 n 0 47 fun o=>ar (call 52 [m,o]) fun p=>dP p (FY 53 (ab b 0) 6 fun q=>bw 51 q 1 48 fun r=>FY 53 (ab b 1) 6 fun s=>bw 51 s 1 48 fun u=>ar (call 53 [r,u]) fun v=>am [v]) fun w=>dP w (FY 53 (ab b 0) 6 fun x=>bw 51 x 2 48 fun y=>FY 53 (ab b 1) 6 fun z=>bw 51 z 2 48 fun A=>ar (call 53 [y,A]) fun B=>am [B]) fun C=>aL 53 (ab b 0) 0 9 fun D=>aL 53 (ab b 1) 0 9 fun E=>aU .eql 9 D E fun F=>dP F (bw 53 (ab b 0) 1 31 fun G=>bw 53 (ab b 1) 1 31 fun H=>ar (call 54 [G,H]) fun I=>am [I]) fun J=>dP J (bw 53 (ab b 0) 2 47 fun K=>bw 53 (ab b 1) 2 47 fun L=>ar (call 52 [K,L]) fun N=>am [N]) fun O=>dP O (bw 53 (ab b 0) 3 48 fun P=>bw 53 (ab b 1) 3 48 fun Q=>ar (call 53 [P,Q]) fun R=>am [R]) fun S=>dP S (bw 53 (ab b 0) 5 4 fun U=>bw 53 (ab b 1) 5 4 fun V=>cN .eql 4 U V fun W=>am [W]) fun X=>dP X (am [C]) fun Y=>am Y)
def FL27_0(call:CC):FW (L27_0 call ak):=gR
def S27(call:CC)(fx:bg AV)(a0 a1:AV):M AV:=aL 53 (qc a0) 4 49 fun a=>cH 49 a fun b=>aL 53 (qc a1) 4 49 fun c=>cH 49 c fun d=>bQ .neq 3 b d (am (.bool false)) (fx (L27_0 call fx) [qc a0,qc a1,qi 0])
def C27(a0 a1:AV):af pg 27 [a0,a1]=be (S27 (af pg) ak (cl aE a0) (cl aE a1)):=cY
def K41_0(call:CC)(fx:bg AV)(a:List AV):M AV:=cq 53 (ab a 0) 6 fun b=>aL 51 b 0 47 fun c=>ar (call 93 [c,qi 8]) fun d=>dP d (FY 53 (ab a 0) 6 fun e=>bw 51 e 1 48 fun f=>ar (call 96 [f,ab a 2]) fun g=>am [g]) fun h=>dP h (FY 53 (ab a 0) 6 fun i=>bw 51 i 2 48 fun j=>ar (call 96 [j,ab a 1]) fun k=>am [k]) fun l=>am l
def L41_0(call:CC)(fx:bg AV)(a:RR)(b:List AV):M AV:=bQ .lss 3 (ab b 4) (ab b 3) (ee 49 (ab b 2) (ab b 4) 110 fun c=>iw 12 c fun d=>aL 110 (qc d) 0 9 fun e=>ar (d9 T 153 (ab b 1) e false) fun f=>eg f (bw 110 (qc d) 0 9 fun g=>ar (call 92 [g]) fun h=>lX UnOp.not h fun i=>am [i]) fun j=>eg j (bw 110 (qc d) 2 47 fun k=>ar (call 93 [k,qi 6]) fun l=>lX UnOp.not l fun m=>am [m]) fun n=>eg n (bw 110 (qc d) 3 106 fun o=>ar (call 94 [o]) fun p=>lX UnOp.not p fun q=>am [q]) fun r=>eg r (bw 110 (qc d) 5 108 fun s=>ar (call 95 [s]) fun u=>lX UnOp.not u fun v=>am [v]) fun w=>eg w (bw 110 (qc d) 4 3 fun x=>cN .andNot 3 x (qi 15) fun y=>cN .neq 3 y (qi 0) fun z=>am [z]) fun A=>aC A (am (.bool false)) (aL 110 (qc d) 0 9 fun B=>ar (ou T 153 (ab b 1) B (.bool true)) fun C=>aU .add 3 (ab b 4) (qi 1) fun D=>a (ow b [D]))) (aL 53 (ab b 0) 0 9 fun E=>ar (call 92 [E]) fun F=>m0 UnOp.not F fun G=>eg G (bw 53 (ab b 0) 1 31 fun H=>nI 31 H fun I=>cN .gtr 3 I (qi 12) fun J=>am [J]) fun K=>eg K (bw 53 (ab b 0) 4 49 fun L=>nI 49 L fun N=>cN .gtr 3 N (qi 30) fun O=>am [O]) fun P=>eg P (bw 53 (ab b 0) 2 47 fun Q=>ar (call 93 [Q,qi 8]) fun R=>lX UnOp.not R fun S=>am [S]) fun U=>eg U (bw 53 (ab b 0) 3 48 fun V=>bw 53 (ab b 0) 2 47 fun W=>nI 47 W fun X=>ar (call 96 [V,X]) fun Y=>lX UnOp.not Y fun Z=>am [Z]) fun u0=>aC u0 (am (.bool false)) (cq 53 (ab b 0) 6 fun u1=>aL 51 u1 0 47 fun u2=>cH 47 u2 fun u3=>aL 53 (ab b 0) 2 47 fun u4=>cH 47 u4 fun u5=>jn (K41_0 call fx) fun u6=>aL 53 (ab b 0) 5 4 fun u7=>m0 UnOp.not u7 fun u8=>aC u8 (bQ .gtr 3 u3 (qi 0) (am (.bool false)) (u6 [ab b 0,u3,qi 0])) (u6 [ab b 0,u3,u5])))
def L41_1(call:CC)(fx:bg AV)(a:RR)(b:List AV):M AV:=bQ .lss 3 (ab b 4) (ab b 3) (ee 31 (ab b 2) (ab b 4) 9 fun c=>ar (d9 T 153 (ab b 1) c false) fun d=>eg d (ar (call 92 [c]) fun e=>lX UnOp.not e fun f=>am [f]) fun g=>aC g (am (.bool false)) (ar (ou T 153 (ab b 1) c (.bool true)) fun h=>aU .add 3 (ab b 4) (qi 1) fun i=>a (ow b [i]))) (ar fW fun j=>aL 53 (ab b 0) 4 49 fun k=>cH 49 k fun l=>fx (L41_0 call fx) [ab b 0,j,k,l,qi 0])
def FL41_0(call:CC):FW (L41_0 call ak):=gR
def FL41_1(call:CC):FW (L41_1 call ak):=gR
def S41(call:CC)(fx:bg AV)(a0:AV):M AV:=ar fW fun a=>aL 53 (qc a0) 1 31 fun b=>cH 31 b fun c=>fx (L41_1 call fx) [qc a0,a,b,c,qi 0]
def C41(a0:AV):af pg 41 [a0]=be (S41 (af pg) ak (cl aE a0)):=cY
def S49(call:CC)(fx:bg AV)(a0:AV):M AV:=ez 33 (qc a0) fun a=>ar (call 108 [a,qi 4]) fun b=>am b
def C49(a0:AV):af pg 49 [a0]=be (S49 (af pg) ak (cl aE a0)):=cY
def S51(call:CC)(fx:bg AV)(a0 a1:AV):M AV:=aL 110 (qc a0) 0 9 fun a=>aL 110 (qc a1) 0 9 fun b=>aU .eql 9 a b fun c=>dP c (bw 110 (qc a0) 1 4 fun d=>bw 110 (qc a1) 1 4 fun e=>cN .eql 4 d e fun f=>am [f]) fun g=>dP g (bw 110 (qc a0) 2 47 fun h=>bw 110 (qc a1) 2 47 fun i=>ar (call 52 [h,i]) fun j=>am [j]) fun k=>dP k (bw 110 (qc a0) 3 106 fun l=>bw 110 (qc a1) 3 106 fun m=>ar (call 109 [l,m]) fun n=>am [n]) fun o=>dP o (bw 110 (qc a0) 4 3 fun p=>bw 110 (qc a1) 4 3 fun q=>cN .eql 3 p q fun r=>am [r]) fun s=>dP s (bw 110 (qc a0) 5 108 fun u=>bw 110 (qc a1) 5 108 fun v=>ar (call 110 [u,v]) fun w=>am [w]) fun x=>am x
def C51(a0 a1:AV):af pg 51 [a0,a1]=be (S51 (af pg) ak (cl aE a0) (cl aE a1)):=cY
def L54_0(call:CC)(fx:bg AV)(a:RR)(b:List AV):M AV:=cH 31 (ab b 0) fun c=>bQ .lss 3 (ab b 2) c (ee 31 (ab b 0) (ab b 2) 9 fun d=>ee 31 (ab b 1) (ab b 2) 9 fun e=>bQ .neq 9 d e (am (.bool false)) (aU .add 3 (ab b 2) (qi 1) fun f=>a [ab b 0,ab b 1,f])) (am (.bool true))
def FL54_0(call:CC):FW (L54_0 call ak):=gR
def S54(call:CC)(fx:bg AV)(a0 a1:AV):M AV:=cH 31 a0 fun a=>cH 31 a1 fun b=>bQ .neq 3 a b (am (.bool false)) (fx (L54_0 call fx) [a0,a1,qi 0])
def C54(a0 a1:AV):af pg 54 [a0,a1]=be (S54 (af pg) ak (cl aE a0) (cl aE a1)):=cY
def L55_0(call:CC)(fx:bg AV)(a:RR)(b:List AV):M AV:=bQ .lss 3 (ab b 3) (ab b 2) (ee 28 (ab b 1) (ab b 3) 58 fun c=>iw 2 c fun d=>aL 58 (qc d) 0 9 fun e=>kT 22 (ab b 0) (ab b 3) fun f=>aL 53 f 0 9 fun g=>aU .neq 9 e g fun h=>eg h (bw 58 (qc d) 1 23 fun i=>yD 22 (ab b 0) (ab b 3) fun j=>bw 53 j 2 47 fun k=>nI 47 k fun l=>ar (dx (call 22 [i,l])) fun m=>lX UnOp.not m fun n=>am [n]) fun o=>aC o (am (.bool false)) (aU .add 3 (ab b 3) (qi 1) fun p=>a (nK b [p]))) (am (.bool true))
def FL55_0(call:CC):FW (L55_0 call ak):=gR
def S55(call:CC)(fx:bg AV)(a0 a1:AV):M AV:=cH 22 a0 fun a=>cH 28 a1 fun b=>bQ .neq 3 a b (am (.bool false)) (cH 28 a1 fun c=>fx (L55_0 call fx) [a0,a1,c,qi 0])
def C55(a0 a1:AV):af pg 55 [a0,a1]=be (S55 (af pg) ak (cl aE a0) (cl aE a1)):=cY
def S83(call:CC)(fx:bg AV)(a0 a1 a2:AV):M AV:=bQ .lss 3 a1 (qi 0) (iy false 110 [] fun a=>fN 12 [] a fun b=>am (.tup [.agg (HY (aa b)),.bool false])) (dT a0 fun c=>cq 170 c 0 fun d=>eG 22 d fun e=>kT 22 e a1 fun f=>aL 53 f 4 49 fun g=>ar (call 144 [g,.fn (Fn.func 145) [] [qc a2]]) fun h=>bQ .lss 3 h (qi 0) (iy false 110 [] fun i=>fN 12 [] i fun j=>am (.tup [.agg (HY (aa j)),.bool false])) (ee 49 g h 110 fun k=>fN 12 [] k fun l=>am (.tup [.agg (HY (aa l)),.bool true])))
def C83(a0 a1 a2:AV):af pg 83 [a0,a1,a2]=S83 (af pg) ak a0 a1 a2:=cZ
def S124(call:CC)(fx:bg AV)(a0 a1:AV):M AV:=ar (call 118 [a0,qi 2]) fun a=>kT 23 a (qi 0) fun b=>eG 33 b fun c=>kT 23 a (qi 1) fun d=>eG 33 d fun e=>iw 4 c fun f=>iw 4 e fun g=>aL 33 (qc f) 0 3 fun h=>aU .eql 3 h (qi 0) fun i=>dP i (bw 33 (qc g) 0 3 fun j=>cN .eql 3 j (qi 0) fun k=>am [k]) fun l=>m0 UnOp.not l fun m=>ar (aM m true 1 (cN .neq 3 a1 (qi 8) fun n=>am [n])) fun o=>ar (aM (ab o 0) false 1 (bw 33 (qc f) 0 3 fun p=>cN .neq 3 p (qi 1) fun q=>am [q])) fun r=>ar (aM m true 1 (AQ (ab o 0) (.bool true) (ab r 0) fun s=>am [s])) fun u=>ar (aM (ab u 0) false 1 (bw 33 (qc g) 0 3 fun v=>cN .neq 3 v (qi 1) fun w=>am [w])) fun x=>dP m (AQ (ab u 0) (.bool true) (ab x 0) fun y=>am [y]) fun z=>aC z (am (qi 13)) (ar (call 117 [a0,qi 2]) fun A=>bQ .eql 3 a1 (qi 4) (aL 33 (qc f) 1 3 fun B=>aL 33 (qc g) 1 3 fun C=>aU .add 3 B C fun D=>ar (call 50 [D]) fun E=>ar (call 115 [a0,E]) fun F=>am (qi 0)) (bQ .eql 3 a1 (qi 5) (aL 33 (qc f) 1 3 fun G=>aL 33 (qc g) 1 3 fun H=>aU .sub 3 G H fun I=>ar (call 50 [I]) fun J=>ar (call 115 [a0,J]) fun K=>am (qi 0)) (bQ .eql 3 a1 (qi 6) (aL 33 (qc f) 1 3 fun L=>aL 33 (qc g) 1 3 fun N=>aU .mul 3 L N fun O=>ar (call 50 [O]) fun P=>ar (call 115 [a0,P]) fun Q=>am (qi 0)) (bQ .eql 3 a1 (qi 7) (aL 33 (qc f) 1 3 fun R=>aL 33 (qc g) 1 3 fun S=>aU .lss 3 R S fun U=>ar (call 116 [U]) fun V=>ar (call 115 [a0,V]) fun W=>am (qi 0)) (aL 33 (qc f) 1 3 fun X=>aL 33 (qc g) 1 3 fun Y=>aU .eql 3 X Y fun Z=>ar (call 116 [Z]) fun u0=>ar (call 115 [a0,u0]) fun u1=>am (qi 0))))))
def C124(a0 a1:AV):af pg 124 [a0,a1]=S124 (af pg) ak a0 a1:=cZ
def S127(call:CC)(fx:bg AV)(a0:AV):M AV:=aU .geq 5 a0 (.int .u8 48) fun a=>dP a (cN .leq 5 a0 (.int .u8 57) fun b=>am [b]) fun c=>am c
def C127(a0:AV):af pg 127 [a0]=be (S127 (af pg) ak (cl aE a0)):=cY
def S143(call:CC)(fx:bg AV)(a0 a1:AV):M AV:=aL 53 (qc a0) 0 9 fun a=>ez 9 a1 fun b=>aU .eql 9 a b fun c=>am c
def C143(a0 a1:AV):af pg 143 [a0,a1]=be (S143 (af pg) ak (cl aE a0) (cl aE a1)):=cY
def L153_0(call:CC)(fx:bg AV)(a:RR)(b:List AV):M AV:=bQ .geq 3 (ab b 2) (qi 0) (ee 31 (ab b 0) (ab b 2) 9 fun c=>bQ .eql 9 c (ab b 1) (am (ab b 2)) (aU .sub 3 (ab b 2) (qi 1) fun d=>a [ab b 0,ab b 1,d])) (am (qi (-1)))
def FL153_0(call:CC):FW (L153_0 call ak):=gR
def S153(call:CC)(fx:bg AV)(a0 a1:AV):M AV:=cH 31 a0 fun a=>aU .sub 3 a (qi 1) fun b=>fx (L153_0 call fx) [a0,a1,b]
def C153(a0 a1:AV):af pg 153 [a0,a1]=be (S153 (af pg) ak (cl aE a0) (cl aE a1)):=cY
def S163(call:CC)(fx:bg AV)(a0 a1 a2:AV):M AV:=ez 193 (qc a1) fun a=>ez 108 (qc a2) fun b=>ar (call 106 [a0,a,b]) fun c=>iw 4 c fun d=>aL 33 (qc d) 0 3 fun e=>aU .eql 3 e (qi 1) fun f=>ar (call 147 [f,qi 13]) fun g=>aL 33 (qc d) 1 3 fun h=>aU .eql 3 h (qi 1) fun i=>am i
def C163(a0 a1 a2:AV):af pg 163 [a0,a1,a2]=S163 (af pg) ak a0 a1 a2:=cZ
def S169(call:CC)(fx:bg AV)(a0 a1:AV):M AV:=ez 33 (qc a0) fun a=>ez 3 a1 fun b=>aU .sub 3 b (qi 1) fun c=>ar (call 108 [a,c]) fun d=>m0 UnOp.not d fun e=>am e
def C169(a0 a1:AV):af pg 169 [a0,a1]=be (S169 (af pg) ak (cl aE a0) (cl aE a1)):=cY
def S177(call:CC)(fx:bg AV)(a0:AV):M AV:=cH 23 a0 fun a=>cH 23 a0 fun b=>ar (bP (cU T 23 a0 none (some a) (some b))) fun c=>am c
def C177(a0:AV):af pg 177 [a0]=be (S177 (af pg) ak (cl aE a0)):=cY
end
end Go.Proofs.YtbndmpiddinalaaGreatDoor
