/- What the functions compute, part 2. Conditions: bounds. -/
import Derived.Test.YtbndmpiddinalabGreatDoorTa
import Derived.Test.YtbndmpiddinalabGreatDoorRows
import Derived.Lib.LaidTab
import Derived.Stop.LaidErr
import Derived.Shelf.Vars
import Derived.ProofKit
import Derived.Deep.DeepHandedRow
import Derived.Deep.DeepWitnessRowRef
import Derived.Deep.DeepLaidRun
set_option linter.defProp false
set_option linter.unusedSimpArgs false
set_option linter.unusedVariables false
namespace Go.Proofs.YtbndmpiddinalabGreatDoor
open Go Go.Av
set_option maxRecDepth 100000
def rJ(w:World):(rI w).heap.size=w.heap.size+2:=by simp[rI]
def IM(w:World)(b:Nat)(hb:b<w.heap.size):(rI w).heap[b]? = w.heap[b]?:=by
 grind [rI,Go.Av.alloc_old]
def Bu(w:World):Gro w (rI w):=(Gro.alloc w _ _).trans (Gro.alloc _ _ _)
def Bt(w w':World)(u0 u1 u2 u3 e:Value):Gro w' (CY w w' u0 u1 u2 u3 e):=
 ((((Gro.setCell _ _ _).trans (Gro.setCell _ _ _)).trans (Gro.setCell _ _ _)).trans (Gro.setCell _ _ _)).trans (Gro.setCell _ _ _)
def xI(w w':World)(u0 u1 u2 u3 e:Value)(b:Nat)(hb:¬(w.heap.size<=b/\b<(rI w).heap.size)):(CY w w' u0 u1 u2 u3 e).heap[b]? = w'.heap[b]?:=by
 rw[rJ]at hb;unfold CY;rw[gK ZX,gK ZX,gK ZX,gK ZX,gK ZX]
def wG{call:FuncId->List AV->M AV}{f:AV}{xs:List AV}{h:Hp}(hr:cU call f xs h≠.fail):∃g a c,f= .fn (.func g) a c:=by
 unfold cU at hr;split at hr
 ·grind
 ·exact absurd rfl hr
theorem Of:O6:=by
 intro call hC args h S β w vs hr hg hw hh hv
 have key:∀f,args=[f]->Calls Tryz.prog 81 vs.toArray w (fg none S β h w (Bq 30 .i64 (.agg [.int .i64 0,.int .i64 0,.sl [],.sl []]) call args h)):=by
  rintro f rfl;have ht:Bq 30 .i64 (.agg [.int .i64 0,.int .i64 0,.sl [],.sl []]) call [f] h=Br 30 .i64 (.agg [.int .i64 0,.int .i64 0,.sl [],.sl []]) (cU call f [] h):=rfl;rw[ht]at hr |-;clear ht;simp only[bB]at hv;obtain⟨fv,_,rfl,hv,rfl⟩:=hv;have hne:cU call f [] h≠.fail:=fun e=>by rw[e]at hr;exact hr rfl
  obtain⟨g,a,c,rfl⟩:=wG hne
  ·have hcv:cU call (.fn (.func g) a c) [] h=call g (a++[]++c) h:=rfl;rw[hcv]at hr hne |-;simp only[VR]at hv;obtain⟨x,y,rfl,hx,hy⟩:=hv;have hold:=IM w;have hv2:bB S β (a++[]++c) (x++y):=by simpa using hx.append hy
   obtain⟨hcall,hfn⟩:=hC g (a++[]++c) h S β (rI w) (x++y) hne ⟨hg.1.mono fun b hb=>hold b (Nat.lt_of_lt_of_le hb hg.1.lt),hg.2⟩ (hw.grow hold) (hh.grow hold) hv2;refine IP g x.toArray y.toArray w _ hfn ?_;have e:(x++y).toArray=x.toArray++y.toArray:=ZV
   rw[<- e];refine hcall.mono fun en w' hp=>?_;have kk:∀S' β' h',Go.Av.Left (df β h) S β (rI w) S' β' w' h'->w'.heap[w.heap.size]? = (rI w).heap[w.heap.size]? /\w'.heap[w.heap.size+1]? = (rI w).heap[w.heap.size+1]?:=fun S' β' h' L=>
    ⟨(L.keep _ (by rw[rJ];omega) fun ho=>by have:=hh.low ho;omega).1,(L.keep _ (by rw[rJ];omega) fun ho=>by have:=hh.low ho;omega).1⟩
   generalize call g (a++[]++c) h=r at hr hne hp |-;cases r with
   |fail=>grind
   | ok v h'=>
    obtain⟨S',β',u,rfl,hu,L,_⟩:=hp;refine⟨(kk _ _ _ L).1,(kk _ _ _ L).2,.inl ?_⟩;simp only[Br]at hr |-;cases hok:bR 4 v with
    |false=>grind
    | true=>
     obtain⟨g1,g2,g3⟩:=ku hok hu;have hcs:∃cs,v= .agg cs:=by
      simp only[bR,Xu]at hok;have h1:=hok.1;cases v<;>simp[dA]at h1;exact⟨_,rfl⟩
     obtain⟨cs,rfl⟩:=hcs;simp only[VR]at hu;obtain⟨us,rfl,hus⟩:=hu;simp only[Value.cells]at g1 g3
     match us,g1 with
     |[u0,u1,u2,u3],_=>
      refine⟨u0,u1,u2,u3,g3 u0 ZV,g3 u1 ZV,g3 u2 ZV,g3 u3 ZV,rfl,S',β',_,rfl,?_,ra (Bu w) hold L (Bt ..) (fun b hb=>xI w w' _ _ _ _ _ b hb) hw hh,fun sz hsz=>by cases hsz⟩;simp only[VR,bB];exact⟨[.agg #[u0,u1,u2,u3],.int .i64 0],rfl,_,_,rfl,⟨[u0,u1,u2,u3],rfl,hus⟩,_,_,rfl,rfl,rfl⟩
   | pan v h'=>
    obtain⟨S',β',u,rfl,hu,L⟩:=hp;refine⟨(kk _ _ _ L).1,(kk _ _ _ L).2,.inr ?_⟩;unfold Br at hr |-;split at hr
    ·grind
    ·rename_i t' k' n h'' heq;cases heq;cases hb:(Nat.beq t' 30&&decide (k'=IntKind.i64))with
     |false=>grind
     |true=>
      simp only[Xu,Xt]at hb;obtain⟨hb1,rfl⟩:=hb
      have:=Nat.eq_of_beq_eq_true hb1
      subst this;simp only[VR]at hu;obtain⟨u',rfl,rfl⟩:=hu;refine⟨n,rfl,S',β',_,rfl,?_,ra (Bu w) hold L (Bt ..) (fun b hb=>xI w w' _ _ _ _ _ b hb) hw hh,fun sz hsz=>by cases hsz⟩;simp only[VR,bB];refine⟨[.agg #[.int .i64 0,.int .i64 0,.slice none 0 0,.slice none 0 0],.int .i64 n],rfl,_,_,rfl,⟨[.int .i64 0,.int .i64 0,.slice none 0 0,.slice none 0 0],rfl,_,_,rfl,rfl,_,_,rfl,rfl,_,_,rfl,?_,_,_,rfl,?_,rfl⟩,_,_,rfl,rfl,rfl⟩
      ·exact⟨none,0,rfl,Xz _,fun _=>rfl,fun q hq=>by cases hq⟩
      ·exact⟨none,0,rfl,Xz _,fun _=>rfl,fun q hq=>by cases hq⟩
    grind
 rcases args with _|⟨f,_|⟨f2,r⟩⟩
 ·exact absurd rfl hr
 ·exact key _ rfl
 ·exact absurd rfl hr
set_option maxHeartbeats 4000000 in
def Il(p q:Addr)(w:World):CallsD Tryz.prog 61 #[.pointer (some p),.pointer (some q)] .returning w fun e u' w'=>e= .returned (.tuple #[])/\u'= .returning/\w'=w:=by
 refine callsD_of_wpS Tryz.func61 rfl fun c₀ cs hu=>?_;apply wpS_seq;apply wpS_region;simp[wpOpsS,go_sem,recoverD,hu,Tryz.ntmps61,Exit.thenS];refine wpS_of_wp ?_
 go_wp2
 cases c₀;simp_all[bodyPostS,results]
def rA(w:World):World:=(w.alloc (Obj.cells #[Value.int IntKind.i64 0] 3)).alloc (Obj.cells #[Value.int IntKind.i64 0] 30)
def Ih(w w':World):World:=(w'.setCell ⟨w.heap.size,0,none⟩ (.int .i64 0)).setCell ⟨w.heap.size+1,0,none⟩ (.int .i64 0)
set_option maxHeartbeats 4000000 in
def Io(g:FuncId)(x y:Array Value)(p:Value)(w:World)(R:Ending->World->Prop)(hfn:(Tryz.prog.funcs[g]?).any (fun fn=>fn.body.isSome&&!(fn.name== "runtime.NumGoroutine"))=true)(hc:Calls Tryz.prog g (x++y) (rA w) fun e w'=>w'.heap[w.heap.size]? = (rA w).heap[w.heap.size]? /\w'.heap[w.heap.size+1]? = (rA w).heap[w.heap.size+1]? /\(∃u,e= .returned u)/\R (.returned (.tuple #[.int .i64 0,.int .i64 0])) (Ih w w')):Calls Tryz.prog 30 #[p,.func (.func g) x y] w R:=by
 have hmf:∀(fn:Fn)(first cap:Array Value)(w:World),(Instr.makeFunc fn first cap).run Tryz.prog w= .ok (.func fn first cap) w:=fun _ _ _ _=>rfl
 go_enter_defers Tryz.func30,Tryz.ntmps30
 go_wp2
 rw[iC hfn,Oper.upon_enter];refine hc.mono fun e w' h=>?_;obtain⟨k0,k1,⟨u,rfl⟩,hR⟩:=h;have r0:w'.heap[w.heap.size]? = some (.cells #[Value.int IntKind.i64 0] 3):=by rw[k0];exact (Go.Av.alloc_old _ _ ZV).trans (heap_alloc_new w _)
 have r1:w'.heap[w.heap.size+1]? = some (.cells #[Value.int IntKind.i64 0] 30):=by rw[k1];have:=heap_alloc_new (w.alloc (Obj.cells #[Value.int IntKind.i64 0] 3)) (Obj.cells #[Value.int IntKind.i64 0] 30);rwa [World.size_alloc]at this
 have c0:w'.cell? ⟨w.heap.size,0,none⟩=some (.int .i64 0):=by simp[World.cell?,r0]
 have d0:w'.cell? ⟨w.heap.size+1,0,none⟩=some (.int .i64 0):=by simp[World.cell?,r1]
 have f0:w'.frozen? ⟨w.heap.size,0,none⟩=false:=by simp[World.frozen?,r0]
 have g0:w'.frozen? ⟨w.heap.size+1,0,none⟩=false:=by simp[World.frozen?,r1]
 clear k0 k1 r0 r1 hc hmf;simp only
 go_wp2
 change Leaves _ _ _ _ _ _ _;refine leaves_cons (f:=61) (args:=#[.pointer (some ⟨w.heap.size,0,none⟩),.pointer (some ⟨w.heap.size+1,0,none⟩)]) ZV (by simp[go_sem]) ?_;refine (Il ⟨w.heap.size,0,none⟩ ⟨w.heap.size+1,0,none⟩ _).mono ?_;rintro e u' w'' ⟨rfl,rfl,rfl⟩;simp only[Leaves,settle];refine⟨_,?_,hR⟩;simp[results,Tryz.results30,go_sem,Ih,World.cell?_setCell_same,c0,d0]
theorem rB(w:World):(rA w).heap.size=w.heap.size+2:=by simp[rA]
def Ik(w:World)(b:Nat)(hb:b<w.heap.size):(rA w).heap[b]? = w.heap[b]?:=by
 grind [rA,Go.Av.alloc_old]
def Ij(w:World):Gro w (rA w):=(Gro.alloc w _ _).trans (Gro.alloc _ _ _)
def Ii(w w':World):Gro w' (Ih w w'):=(Gro.setCell _ _ _).trans (Gro.setCell _ _ _)
def FH(w w':World)(b:Nat)(hb:¬(w.heap.size<=b/\b<(rA w).heap.size)):(Ih w w').heap[b]? = w'.heap[b]?:=by
 grind [rB,Ih,gK]
theorem Sr(call:FuncId->List AV->M AV)(hC:dD Tryz.prog own call)(args:List AV)(h:Hp)(S:aD)(β:List cE)(w:World)(vs:List Value)(hr:sT call args h≠.fail)(hg:wk S β h w)(hw:Wf S w)(hh:dE S β w h)(hv:bB S β args vs):
  Calls Tryz.prog 30 vs.toArray w (fg none S β h w (sT call args h)):=by
 have key:∀p f,args=[p,f]->Calls Tryz.prog 30 vs.toArray w (fg none S β h w (sT call args h)):=by
  rintro p f rfl;have ht:sT call [p,f] h=jI (cU call f [] h):=rfl;rw[ht]at hr |-;clear ht;simp only[bB]at hv;obtain⟨pv,_,rfl,_,fv,_,rfl,hv,rfl⟩:=hv;have hne:cU call f [] h≠.fail:=fun e=>by rw[e]at hr;exact hr rfl
  obtain⟨g,a,c,rfl⟩:=wG hne;have hcv:cU call (.fn (.func g) a c) [] h=call g (a++[]++c) h:=rfl;rw[hcv]at hr hne |-;simp only[VR]at hv;obtain⟨x,y,rfl,hx,hy⟩:=hv;have hold:=Ik w;have hv2:bB S β (a++[]++c) (x++y):=by simpa using hx.append hy
  obtain⟨hcall,hfn⟩:=hC g (a++[]++c) h S β (rA w) (x++y) hne ⟨hg.1.mono fun b hb=>hold b (Nat.lt_of_lt_of_le hb hg.1.lt),hg.2⟩ (hw.grow hold) (hh.grow hold) hv2;refine Io g x.toArray y.toArray pv w _ hfn ?_;have e:(x++y).toArray=x.toArray++y.toArray:=ZV
  rw[<- e];refine hcall.mono fun en w' hp=>?_;have kk:∀S' β' h',Go.Av.Left (df β h) S β (rA w) S' β' w' h'->w'.heap[w.heap.size]? = (rA w).heap[w.heap.size]? /\w'.heap[w.heap.size+1]? = (rA w).heap[w.heap.size+1]?:=fun S' β' h' L=>
   ⟨(L.keep _ (by rw[rB];omega) fun ho=>by have:=hh.low ho;omega).1,(L.keep _ (by rw[rB];omega) fun ho=>by have:=hh.low ho;omega).1⟩
  generalize call g (a++[]++c) h=r at hr hne hp |-;cases r with
  |fail=>grind
  |pan v h'=>exact absurd rfl hr
  |ok v h'=>
   obtain⟨S',β',u,rfl,hu,L,_⟩:=hp;refine⟨(kk _ _ _ L).1,(kk _ _ _ L).2,⟨_,rfl⟩,?_⟩;simp only[jI];refine⟨S',β',_,rfl,?_,ra (Ij w) hold L (Ii ..) (fun b hb=>FH w w' b hb) hw hh,fun sz hsz=>by cases hsz⟩;simp only[VR,bB]
   grind
 rcases args with _|⟨p,_|⟨f,_|⟨f2,r⟩⟩⟩
 ·exact absurd rfl hr
 ·exact absurd rfl hr
 ·grind
 ·exact absurd rfl hr
end Go.Proofs.YtbndmpiddinalabGreatDoor
namespace Go.Proofs.YtbndmpiddinalabGreatDoor
open Go Go.Av Go.RowKit
set_option maxRecDepth 100000
def Uh{α:Type}{f k:Nat}{x:α}{o:Option α}{y:α}(h:(bif Nat.beq f k then some x else o)=some y):(f=k/\x=y)\/o=some y:=by
 cases hb:Nat.beq f k with
 |true=>simp_all
 |false=>grind
def Gt{α:Type}{f k:Nat}{x y:α}{o:Option α}{P:Prop}(h1:f=k->x=y->P)(h2:o=some y->P)(h:(bif Nat.beq f k then some x else o)=some y):P:=(Uh h).elim (fun h=>h1 h.1 h.2) h2
def Gu{f k:Nat}{b:Bool}{P:Prop}(h1:f=k->P)(h2:b=true->P)(h:(bif Nat.beq f k then true else b)=true):P:=by
 cases hb:Nat.beq f k with
 |true=>simp_all
 |false=>grind
def U8:GoodPg Tryz.prog pg where
 tok:=tok
 funcs:=He
 other:=by
  intro f E hE call hC args h S β w vs hr hg hw hh hv;have h0:other f=some E:=hE;unfold other at h0;revert h0
  repeat' refine Gt ?_ ?_
  all_goals first
   |(intro h0;cases h0;done)
   |(rintro rfl rfl;exact⟨Sr call hC args h S β w vs hr hg hw hh hv,ZY⟩)
   |(rintro rfl rfl;exact⟨Of call hC args h S β w vs hr hg hw hh hv,ZY⟩)
   |(rintro rfl rfl;exact⟨NW call args h S β w vs hr hg hw hh hv,ZY⟩)
   |(rintro rfl rfl;exact⟨NV call args h S β w vs hr hg hw hh hv,ZY⟩)
   |(rintro rfl rfl;exact⟨Sp call args h S β w vs hr hg hw hh hv,ZY⟩)
   |(rintro rfl rfl;exact⟨Ss call args h S β w vs hr hg hw hh hv,ZY⟩)
   |(rintro rfl rfl;exact⟨NU call args h S β w vs hr hg hw hh hv,ZY⟩)
   |(rintro rfl rfl;exact⟨Sq call args h S β w vs hr hg hw hh hv,ZY⟩)
   |(rintro rfl rfl;exact⟨NR call args h S β w vs hr hg hw hh hv,ZY⟩)
   |(rintro rfl rfl;exact⟨NS call args h S β w vs hr hg hw hh hv,ZY⟩)
   |(rintro rfl rfl;exact⟨NT call args h S β w vs hr hg hw hh hv,ZY⟩)
 nw:=by
  intro f hf;have h0:pg.nw f=true:=hf;revert h0;show (bif _ then _ else _)=true->_
  repeat' refine Gu ?_ ?_
  all_goals first
   |(intro h0;cases h0;done)
   |(rintro rfl;exact⟨_,rfl,fun call args=>EP _ _ _ _⟩)
end Go.Proofs.YtbndmpiddinalabGreatDoor
namespace Go.Proofs.YtbndmpiddinalabGreatDoor
open Go Go.Av Go.ChangeShapes Go.WideShapes Go.ChangeAt Go.RowKit
set_option maxRecDepth 1000000
def VP:ownKnob Tryz.prog.godebug=none:=ZY
def vT{H:Type}{enc:TypeId×Value->H}{P:Program}{w:World}{base:Nat}{sp:Nat->Bool}{held:Bool}{fuel:Nat}{t e:TypeId}{n:Nat}{cs:List Value}{zs:List (List UInt8)}{p:List MemPlace}(ht:P.underlying t=some (.array n e))(he:P.underlying e=some .string)(hce:P.cellsOf e=1)(hct:P.cellsOf t=n)(h:DataW.trod enc P w base sp held fuel t cs=some (.agg (zs.map fun z=>.lit (.string z)),p)):cs=zs.map fun z=>Value.string ⟨z.toArray⟩:=by
 cases fuel with
 |zero=>simp[DataW.trod]at h
 | succ fuel=>
  simp only[DataW.trod,ht,hce,hct,Nat.mul_one]at h;split at h
  ·rename_i hl;obtain⟨xs,hm,hx⟩:=Ys.1 h;have hxs:xs.map (·.1)=zs.map fun z=>(DataW.lit (.string z):DataW H):=by
    have:=X4 Prod.fst hx
    simpa using this
   have hxl:xs.length=n:=by simpa using Lib.mapM_length hm
   have hzl:zs.length=n:=by
    have:=X4 List.length hxs
    simp at this;omega
   apply YJ;intro i;by_cases hi:i<n
   ·obtain⟨b,hb,hf⟩:=Lib.mapM_at hm i i (by simp[hi]);obtain⟨z,hc,rfl,_⟩:=DataW.trod_string he hf;have h1:cs[i]? = some (.string z):=by
     have:=X4 (·[0]?) hc
     simpa [YX,YN]using this
    have h2:(xs.map (·.1))[i]? = some (DataW.lit (.string z.data.toList):DataW H):=by simp[hb]
    simp_all
   grind
  ·cases h
def Nr{W:World}(hL:laidMetH Tryz.prog Rows.vmOwnRow.laid W)(hS:W.ShapedOpen Tryz.prog):GOKw W:=by
 have h0:laidMet Tryz.prog Rows.vmOwnRow.laid W:=hL;have h1:=h0.tail;have h2:=h1.tail;have ha:=Lib.tabIs_of_head (k:=.u8) (zs:=Lib.asciiSpaceTab) (g:=1) (t:=233) (e:=5) (n:=256) ZY ZY ZY ZY ZY ZY h1
 have hw:W.var? Tryz.prog "lading/lex.signs" = some (vq.map fun s=>Value.string ⟨s.toArray⟩).toArray:=by
  obtain⟨ps,⟨g',t',cs,fuel,p,q,hg',ht',hvar,hd,_,_⟩,_⟩:=h2
  obtain rfl:=X9 ((show Tryz.prog.globalNamed "lading/lex.signs" = some 0 by kernel_rfl).symm.trans hg')
  obtain rfl:=X9 ((show (Tryz.prog.globals[0]?).map (·.type)=some 203 by kernel_rfl).symm.trans ht');rw[hvar,<- vT (zs:=vq) (n:=14) (e:=9) ZY Tryz.underlying9 ZY ZY hd]
 have hvar:∀ {name:String} {g:Nat} {cs:Array Value},Tryz.prog.globalNamed name=some g->W.var? Tryz.prog name=some cs->∃t fr,W.heap[g]? = some (.cells cs t fr):=by
  intro name g cs hn hv;unfold World.var? at hv;rw[hn]at hv;simp only[Zg]at hv;split at hv
  ·grind
  ·cases hv
 refine⟨hvar ZY hw,hvar ZY ha,?_⟩;exact cell_of_shapedOpen_int (zero:=#[.int .i64 0]) (t:=3) hS (of_decide_eq_true ZY) ZY rfl ZY ZY Tryz.underlying3
mutual
def tN:DataW Unit->List Value
 |.lit (.bool b)=>[.bool b]
 |.lit (.int k n)=>[.int k n]
 |.lit (.string s)=>[.string ⟨s.toArray⟩]
 |.agg ps=>GN ps
 |_=>[]
def GN:List (DataW Unit)->List Value
 |[]=>[]
 |d:: ds=>tN d++GN ds
end
def CL:List Value:=[9,13,1,32,133,101,160,5760,5600,8192,8202,1,8232,8233,1,8239,8287,48,12288,12288,1].map (Value.int .u16)
noncomputable def low:Nat:=(World.holding Tryz.prog default ⟨#[],#[],[]⟩).heap.size
noncomputable def IV:List (Option (Array Value)):=[some (tN Rows.laid_lading_lex_signs).toArray,some (tN Rows.laid_strings_asciiSpace).toArray,some #[.pointer (some ⟨low,0,none⟩)]]
def yM:List Obj->List (Option (Array Value))->List Obj
 |.cells _ t fr:: os,some c:: cs=>.cells c t fr:: yM os cs
 |o:: os,_:: cs=>o:: yM os cs
 |os,[]=>os
 |[],_=>[]
noncomputable def q7(os:Os):World:=
 let w0:=World.holding Tryz.prog os ⟨#[.cells #[.slice (some ⟨low+1,0,none⟩) 7 7,.slice none 0 0,.int .i64 2] 251,.cells CL.toArray 254],#[],[]⟩
 { w0 with heap:=(yM w0.heap.toList IV).toArray }
def Hx(os:Os)(args:Array Value):laidMet Tryz.prog Rows.vmOwnRow.laid ((q7 os).forCall (fun _ _=>0) ⟨#[],args,[]⟩).memory:=
 laidMet_of_run3 8 ZY ZY ZY
end Go.Proofs.YtbndmpiddinalabGreatDoor
namespace Go.Proofs.YtbndmpiddinalabGreatDoor
open Go Go.Av Go.Av.Ap Go.RowKit
set_option maxRecDepth 1000000
section
variable {H:Type} {enc:TypeId×Value->H} {W:World}
theorem kU:reachBytes=140737488351232:=rfl
theorem yS(N:Nat):Rd enc Tryz.prog W N 31 (fun l:List aW=>[strs l]) (fun l=>l.length<=8796093022208):=
 (kT (nR Tryz.underlying9) Tryz.underlying31 (by kernel_rfl:_=1) ZT (by kernel_rfl:_=16) (zS fun _=>rfl)).map id (fun _=>rfl) (fun l h=>by grind [kU])
theorem Km(N:Nat):Rd enc Tryz.prog W N 24 (fun l:List Int=>[ints l]) (fun l=>l.length<=140737488355328):=
 (kT (nQ Tryz.underlying3) Tryz.underlying24 (by kernel_rfl:_=1) ZT (by kernel_rfl:_=8) (zS fun _=>rfl)).map id (fun _=>rfl) (fun l h=>by grind [kU])
theorem Val.lim_mk{k n:Int}{ns:List aW}{vs:List Val}(h1:ns.length<=140737488355328)(h2:vs.length<=140737488355328)(h3:∀v∈vs,v.Lim):(Val.mk k n ns vs).Lim:=fun j=>match j with
 |0=>trivial
 |j+1=>⟨h1,h2,fun x hx=>h3 x hx j⟩
theorem Exp.lim_mk{o n:Int}{s m:aW}{ns:List aW}{es:List Exp}(h1:ns.length<=8796093022208)(h2:es.length<=140737488355328)(h3:∀v∈es,v.Lim):(Exp.mk o n s m ns es).Lim:=fun j=>match j with
 |0=>trivial
 |j+1=>⟨h1,h2,fun x hx=>h3 x hx j⟩
theorem Ty.lim_mk{k:Int}{fs:List fF}(h2:fs.length<=140737488355328)(h3:∀v∈fs,v.2.Lim):(Ty.mk k fs).Lim:=fun j=>match j with
 |0=>trivial
 |j+1=>⟨h2,fun x hx=>h3 x hx j⟩
theorem uX{N:Nat}(h:Rd enc Tryz.prog W N 33 (fun v:Val=>aa v.av) Val.Lim):Rd enc Tryz.prog W N 23 (fun l:List Val=>[vals l]) (fun l=>l.length<=140737488355328/\∀v∈l,v.Lim):=
 (kT h Tryz.underlying23 (by kernel_rfl:_=4) ZT (by kernel_rfl:_=64) (ev:=Val.av) (lP fun v=>ZW)).map id (fun l=>by simp[vals,dT]) (fun l h=>⟨by grind [kU],h.2⟩)
theorem rd_val:∀N,Rd enc Tryz.prog W N 33 (fun v:Val=>aa v.av) Val.Lim
 |0=>.zero
 | N+1=>(jf Tryz.underlying33 ZY (bq (nQ Tryz.underlying3) rfl (by kernel_rfl:_=1) (bq (nQ Tryz.underlying3) rfl (by kernel_rfl:_=1) (bq (yS N) rfl (by kernel_rfl:_=1)
   (bq (uX (rd_val N)) rfl (by kernel_rfl:_=1) kS))))).map (fun x=>Val.mk x.1 x.2.1 x.2.2.1 x.2.2.2.1) (fun x=>ZW) (fun x h=>Val.lim_mk ZU h.2.2.2.1.1 h.2.2.2.1.2)
theorem Ko(N:Nat):Rd enc Tryz.prog W N 23 (fun l:List Val=>[vals l]) (fun l=>l.length<=140737488355328/\∀v∈l,v.Lim):=uX (rd_val N)
theorem uV{N:Nat}(h:Rd enc Tryz.prog W N 108 (fun v:Exp=>v.cells) Exp.Lim):Rd enc Tryz.prog W N 50 (fun l:List Exp=>[dF l]) (fun l=>l.length<=140737488355328/\∀v∈l,v.Lim):=
 (kT h Tryz.underlying50 (by kernel_rfl:_=6) ZT (by kernel_rfl:_=96) (ev:=Exp.av) (lP fun v=>rfl)).map id (fun l=>by simp[dF,kJ]) (fun l h=>⟨by grind [kU],h.2⟩)
theorem CM:∀N,Rd enc Tryz.prog W N 108 (fun v:Exp=>v.cells) Exp.Lim
 |0=>.zero
 | N+1=>(jf Tryz.underlying108 ZY (bq (nQ Tryz.underlying3) rfl (by kernel_rfl:_=1) (bq (nQ Tryz.underlying3) rfl (by kernel_rfl:_=1) (bq (nR Tryz.underlying9) rfl (by kernel_rfl:_=1) (bq (nR Tryz.underlying9) rfl (by kernel_rfl:_=1)
   (bq (yS N) rfl (by kernel_rfl:_=1) (bq (uV (CM N)) rfl (by kernel_rfl:_=1) kS))))))).map (fun x=>Exp.mk x.1 x.2.1 x.2.2.1 x.2.2.2.1 x.2.2.2.2.1 x.2.2.2.2.2.1) (fun x=>by grind [Exp.cells_eq,Exp.op,Exp.n,Exp.s,Exp.m,Exp.names,Exp.args]) (fun x h=>Exp.lim_mk h.2.2.2.2.1 h.2.2.2.2.2.1.1 h.2.2.2.2.2.1.2)
theorem yQ(N:Nat):Rd enc Tryz.prog W N 50 (fun l:List Exp=>[dF l]) (fun l=>l.length<=140737488355328/\∀v∈l,v.Lim):=uV (CM N)
theorem uW{N:Nat}(h:Rd enc Tryz.prog W N 106 (fun v:Ty=>v.cells) Ty.Lim):Rd enc Tryz.prog W (N+1) 49 (fun l:List fF=>[ck l]) (fun l=>l.length<=140737488355328/\∀v∈l,v.2.Lim):=
 (kT ((jf Tryz.underlying154 ZY (bq (nR Tryz.underlying9) rfl (by kernel_rfl:_=1) (bq h rfl (by kernel_rfl:_=2) kS))).map (fun x=>((x.1,x.2.1):fF)) (cells':=fun f=>aa (dV f)) (Ok':=fun f=>f.2.Lim) (fun x=>by simp[Ty.cells_eq]) (fun x h=>h.2.1))
  Tryz.underlying49 (by kernel_rfl:_=3) ZT (by kernel_rfl:_=48) (ev:=dV) (lP fun v=>ZW)).map id (fun l=>by simp[ck,kL]) (fun l h=>⟨by grind [kU],h.2⟩)
theorem Ia:∀N,Rd enc Tryz.prog W N 106 (fun v:Ty=>v.cells) Ty.Lim
 |0=>.zero
 | N+1=>(jf Tryz.underlying106 ZY (bq (nQ Tryz.underlying3) rfl (by kernel_rfl:_=1) (bq ((uW (Ia N)).le (Zt N)) rfl (by kernel_rfl:_=1) kS))).map (fun x=>Ty.mk x.1 x.2.1)
   (fun x=>by simp[Ty.cells_eq,Ty.kind,Ty.fields]) (fun x h=>Ty.lim_mk h.2.1.1 h.2.1.2)
theorem yR(N:Nat):Rd enc Tryz.prog W N 49 (fun l:List fF=>[ck l]) (fun l=>l.length<=140737488355328/\∀v∈l,v.2.Lim):=(uW (Ia N)).le (Zt N)
theorem N4(N:Nat):Rd enc Tryz.prog W (N+1) 110 (fun f:Fun=>aa f.av) Fun.Lim:=
 (jf Tryz.underlying110 ZY (bq (nR Tryz.underlying9) rfl (by kernel_rfl:_=1) (bq (Ec Tryz.underlying4) rfl (by kernel_rfl:_=1) (bq (yR N) rfl (by kernel_rfl:_=1) (bq (Ia N) rfl (by kernel_rfl:_=2)
  (bq (nQ Tryz.underlying3) rfl (by kernel_rfl:_=1) (bq (CM N) rfl (by kernel_rfl:_=6) kS))))))).map (fun x=>(⟨x.1,x.2.1,x.2.2.1,x.2.2.2.1,x.2.2.2.2.1,x.2.2.2.2.2.1⟩:Fun))
  (fun x=>by simp[Ty.cells_eq,Exp.cells_eq]) (fun x h=>⟨h.2.2.1.1,h.2.2.1.2,h.2.2.2.1,h.2.2.2.2.2.1⟩)
theorem Kl(N:Nat):Rd enc Tryz.prog W N 51 (fun l:List Fun=>[iP l]) (fun l=>l.length<=140737488355328/\∀v∈l,v.Lim):=
 ((kT (N4 N) Tryz.underlying51 (by kernel_rfl:_=12) ZT (by kernel_rfl:_=184) (ev:=Fun.av) (lP fun v=>rfl)).map id (fun l=>by simp[iP]) (fun l h=>⟨by grind [kU],h.2⟩)).le (Zt N)
theorem N5(N:Nat):Rd enc Tryz.prog W (N+1) 55 (fun m:Mod=>aa m.av) Mod.Lim:=
 (jf Tryz.underlying55 ZY (bq (nR Tryz.underlying9) rfl (by kernel_rfl:_=1) (bq (yS N) rfl (by kernel_rfl:_=1) (bq (yR N) rfl (by kernel_rfl:_=1) (bq (yQ N) rfl (by kernel_rfl:_=1)
  (bq (Kl N) rfl (by kernel_rfl:_=1) (bq (Ec Tryz.underlying4) rfl (by kernel_rfl:_=1)
  (bq ((jf Tryz.underlying53 ZY (bq (yR N) rfl (by kernel_rfl:_=1) (bq (yQ N) rfl (by kernel_rfl:_=1) (bq (yQ N) rfl (by kernel_rfl:_=1) kS)))).le (Zt N)) rfl (by kernel_rfl:_=3) kS)))))))).map
  (fun x=>(⟨x.1,x.2.1,x.2.2.1,x.2.2.2.1,x.2.2.2.2.1,x.2.2.2.2.2.1,x.2.2.2.2.2.2.1.1,x.2.2.2.2.2.2.1.2.1,x.2.2.2.2.2.2.1.2.2.1⟩:Mod))
  (fun x=>ZV) (fun x h=>⟨ZU,h.2.2.1.1,h.2.2.1.2,h.2.2.2.1.1,h.2.2.2.1.2,h.2.2.2.2.1.1,h.2.2.2.2.1.2,h.2.2.2.2.2.2.1.1.1,h.2.2.2.2.2.2.1.1.2,h.2.2.2.2.2.2.1.2.1.1,h.2.2.2.2.2.2.1.2.1.2,h.2.2.2.2.2.2.1.2.2.1.1,h.2.2.2.2.2.2.1.2.2.1.2⟩)
theorem Kn(N:Nat):Rd enc Tryz.prog W N 22 (fun l:List Mod=>[mods l]) (fun l=>l.length<=140737488355328/\∀v∈l,v.Lim):=
 ((kT (N5 N) Tryz.underlying22 (by kernel_rfl:_=9) ZT (by kernel_rfl:_=192) (ev:=Mod.av) (lP fun v=>rfl)).map id (fun l=>by simp[mods]) (fun l h=>⟨by grind [kU],h.2⟩)).le (Zt N)
end
end Go.Proofs.YtbndmpiddinalabGreatDoor
namespace Go.Proofs.YtbndmpiddinalabGreatDoor
open Go Go.Av Go.Av.Ap
set_option maxRecDepth 100000
noncomputable section
abbrev FW(G:(List AV->M AV)->List AV->M AV):Prop:=∀vs,ak G vs=G (ak G) vs
def lB{α β:Type}{m:M α}{f:α->M β}{fs:Nat->α->M β}(hf:cK f fs):eg (au m f) fun n=>au m (fs n):=eg.bnd (gp _) hf
def lA{β:Type}{f:β->M AV}{fs:Nat->β->M AV}(h:cK f fs)(x:β):eg (f x) fun n=>fs n x:=h x
def lZ{F:(List AV->M AV)->List AV->M AV}{Fs:Nat->(List AV->M AV)->List AV->M AV}(vs:List AV)(h1:∀a b,cK a b->∀v,eg (F a v) fun n=>Fs n (b n) v)(h2:∀a b,cK a b->∀v,eg (F a v) fun n=>F (b n) v)(h3:∀n a b,cK a b->∀v,eg (Fs n a v) fun k=>Fs n (b k) v):eg (ak F vs) fun n=>ak (Fs n) vs:=E7 h1 h2 h3 vs
def hY{G:(List AV->M AV)->List AV->M AV}(h:∀a b,cK a b->∀v,eg (G a v) fun n=>G (b n) v:=by intros;repeat' first|with_reducible refine lB fun _=>?_|with_reducible refine wM ?_ ?_|with_reducible exact gp _|(with_reducible refine lA ?_ _;assumption)|with_reducible (refine lZ _ ?_ ?_ ?_<;>intros)|with_reducible refine uk ?_|with_reducible refine xo ?_|with_reducible (refine eg.bnd ?_ fun _=>?_)|refine lB fun _=>?_|refine wM ?_ ?_|(refine lA ?_ _;assumption)):FW G:=fun vs=>JJ h vs
def cY{k:Nat}{fn:Go.Func}{g:Ann}{xs l:List AV}{m:M AV}(h1:pg.other k=none:=by exact rfl)(h2:pg.funcs k=some (fn,g):=by exact rfl)(h3:g.iso=true:=by exact rfl)(hl:fp aF xs=l:=by exact rfl)(h:bX (pg.cx (af pg) fn.ntmps g) ak fn (own k) l=m:=by kernel_rfl):af pg k xs=bn m:=by subst hl;exact (EN g8 h1 h2 h3 xs).trans (X4 bn h)
def cZ{k:Nat}{fn:Go.Func}{g:Ann}{xs:List AV}{m:M AV}(h1:pg.other k=none:=by exact rfl)(h2:pg.funcs k=some (fn,g):=by exact rfl)(h3:g.iso=false:=by exact rfl)(h:bX (pg.cx (af pg) fn.ntmps g) ak fn (own k) xs=m:=by kernel_rfl):af pg k xs=m:=(BQ g8 h1 h2 h3 xs).trans h
def L3_0(call:CC)(fx:bk AV)(a:RR)(b:RR)(c:List AV):M AV:=aU .sub 3 (ab c 5) (qi 1) fun d=>aU .lss 3 (ab c 6) d fun e=>fk e (ca 39 (ab c 4) 5 4 fun f=>m9 UnOp.not f fun g=>ao [g]) fun h=>aC h (aR 39 (ab c 4) 2 29 fun i=>jU 29 i (ab c 6) fun j=>aR 46 j 2 3 fun k=>jU 29 (ab c 9) (ab c 6) fun l=>aR 46 l 2 3 fun m=>aU .neq 3 k m fun n=>eG n (ca 39 (ab c 4) 2 29 fun o=>s8 29 o (ab c 6) fun p=>ca 46 p 4 23 fun q=>s8 29 (ab c 9) (ab c 6) fun r=>ca 46 r 4 23 fun s=>au (dz (call 10 [q,s])) fun u=>m9 UnOp.not u fun v=>ao [v]) fun w=>eG w (ca 39 (ab c 4) 2 29 fun x=>s8 29 x (ab c 6) fun y=>ca 46 y 3 23 fun z=>s8 29 (ab c 9) (ab c 6) fun A=>ca 46 A 3 23 fun B=>au (dz (call 10 [z,B])) fun C=>m9 UnOp.not C fun D=>ao [D]) fun E=>aC E (ao (.bool false)) (aU .add 3 (ab c 6) (qi 1) fun F=>b (Kk c [F,ab c 7,ab c 8,ab c 9,ab c 10,ab c 11,ab c 12,ab c 13,ab c 14,ab c 15,ab c 16,ab c 17,ab c 18,ab c 19]))) (eX 39 (ab c 4) fun G=>fH 13 [] G fun H=>aU .add 3 (ab c 3) (qi 1) fun I=>a (mS c [I,ab (aa H) 0,ab (aa H) 1,ab (aa H) 2,ab (aa H) 3,ab (aa H) 4,ab (aa H) 5,ab (aa H) 6,ab (aa H) 7,ab (aa H) 8,ab (aa H) 9,ab (aa H) 10,ab (aa H) 11,ab (aa H) 12]))
def L3_1(call:CC)(fx:bk AV)(a:RR)(b:List AV):M AV:=aU .lss 3 (ab b 3) (ab b 0) fun c=>fk c (cN .eql 30 (ab b 2) (qi 0) fun d=>ao [d]) fun e=>fk e (kw 29 (ab b 6) fun f=>cN .gtr 3 f (qi 0) fun g=>ao [g]) fun h=>aC h (au (call 8 [.agg [ab b 4,ab b 5,ab b 6,ab b 7,ab b 8,ab b 9,ab b 10,ab b 11,ab b 12,ab b 13,ab b 14,ab b 15,ab b 16]]) fun i=>jd i 0 fun j=>jd i 1 fun k=>jv 13 j fun l=>cO 29 (ab b 6) fun m=>aU .sub 3 m (qi 1) fun n=>aR 39 (qc l) 1 28 fun o=>jU 29 (ab b 6) n fun p=>aR 46 p 0 9 fun q=>au (dz (call 9 [ab b 5,o,q])) fun r=>jd r 0 fun s=>jd r 1 fun u=>aU .neq 30 k (qi 0) fun v=>eG v (m9 UnOp.not u fun w=>ao [w]) fun x=>eG x (cN .gtr 3 s (qi 1) fun y=>ao [y]) fun z=>eG z (ca 39 (qc l) 3 24 fun A=>kw 24 A fun B=>kw 24 (ab b 7) fun C=>cN .gtr 3 B C fun D=>ao [D]) fun E=>eG E (ca 39 (qc l) 3 24 fun F=>kw 24 F fun G=>kw 24 (ab b 7) fun H=>cN .sub 3 H (qi 1) fun I=>cN .lss 3 G I fun J=>ao [J]) fun K=>eG K (Gb 39 (qc l) 4 fun L=>ca 37 L 2 34 fun N=>kw 34 N fun O=>kw 34 (ab b 13) fun P=>cN .lss 3 O P fun Q=>ao [Q]) fun R=>eG R (Gb 39 (qc l) 4 fun S=>ca 37 S 2 34 fun U=>kw 34 U fun V=>kw 34 (ab b 13) fun W=>cN .add 3 W (qi 1) fun X=>cN .gtr 3 V X fun Y=>ao [Y]) fun Z=>eG Z (Gb 39 (qc l) 4 fun u0=>ca 37 u0 3 35 fun u1=>kw 35 u1 fun u2=>kw 35 (ab b 14) fun u3=>cN .lss 3 u2 u3 fun u4=>ao [u4]) fun u5=>eG u5 (Gb 39 (qc l) 4 fun u6=>ca 37 u6 3 35 fun u7=>kw 35 u7 fun u8=>kw 35 (ab b 14) fun u9=>cN .add 3 u9 (qi 1) fun v0=>cN .gtr 3 u8 v0 fun v1=>ao [v1]) fun v2=>aC v2 (ao (.bool false)) (aR 39 (qc l) 5 4 fun v3=>oq UnOp.not v3 fun v4=>au (aK v4 true 1 (ca 39 (qc l) 2 29 fun v5=>kw 29 v5 fun v6=>cN .lss 3 v6 n fun v7=>ao [v7])) fun v8=>au (aK (ab v8 0) false 1 (ca 39 (qc l) 2 29 fun v9=>kw 29 v9 fun w0=>cN .add 3 n (qi 2) fun w1=>cN .gtr 3 w0 w1 fun w2=>ao [w2])) fun w3=>fk v4 (zi (ab v8 0) (.bool true) (ab w3 0) fun w4=>ao [w4]) fun w5=>au (aK w5 false 1 (ca 39 (qc l) 5 4 fun w6=>ao [w6])) fun w7=>au (aK (ab w7 0) true 1 (ca 39 (qc l) 2 29 fun w8=>kw 29 w8 fun w9=>cN .gtr 3 w9 (qi 0) fun x0=>ao [x0])) fun x1=>eG w5 (zi (ab w7 0) (ab x1 0) (.bool false) fun x2=>ao [x2]) fun x3=>aC x3 (ao (.bool false)) (fx (L3_0 call fx a) (nP b [qc l,n,qi 0,ab b 4,ab b 5,ab b 6,ab b 7,ab b 8,ab b 9,ab b 10,ab b 11,ab b 12,ab b 13,ab b 14,ab b 15,ab b 16])))) (ao (ab b 1))
def FL3_0(call:CC)(a:RR):FW (L3_0 call ak a):=hY
def FL3_1(call:CC):FW (L3_1 call ak):=hY
def S3(call:CC)(fx:bk AV)(a0 a1 a2 a3 a4 a5:AV):M AV:=au (call 4 []) fun a=>au (call 5 [a0]) fun b=>oq UnOp.not b fun c=>eG c (au (call 6 [a3,qi 8]) fun d=>m9 UnOp.not d fun e=>ao [e]) fun f=>eG f (kw 24 a4 fun g=>cN .gtr 3 g (qi 30) fun h=>ao [h]) fun i=>eG i (cN .gtr 3 a5 (qi 60) fun j=>ao [j]) fun k=>aC k (ao a) (au (call 7 [a0,a1,a2,a3,a4]) fun l=>jd l 0 fun m=>jd l 1 fun n=>fH 13 [] m fun o=>fx (L3_1 call fx) [a5,a,n,qi 0,ab (aa o) 0,ab (aa o) 1,ab (aa o) 2,ab (aa o) 3,ab (aa o) 4,ab (aa o) 5,ab (aa o) 6,ab (aa o) 7,ab (aa o) 8,ab (aa o) 9,ab (aa o) 10,ab (aa o) 11,ab (aa o) 12])
def C3(a0 a1 a2 a3 a4 a5:AV):af pg 3 [a0,a1,a2,a3,a4,a5]=bn (S3 (af pg) ak (cl aF a0) (cl aF a1) (cl aF a2) (cl aF a3) (cl aF a4) (cl aF a5)):=cY
def L6_0(call:CC)(fx:bk AV)(a:RR)(b:List AV):M AV:=cO 23 (ab b 0) fun c=>aU .lss 3 (ab b 2) c fun d=>fk d (cN .leq 3 (ab b 2) (ab b 1) fun e=>ao [e]) fun f=>aC f (eH 23 (ab b 0) (ab b 2) 33 fun g=>au (call 19 [g,qi 100]) fun h=>aU .gtr 3 h (qi 100) fun i=>eG i (s8 23 (ab b 0) (ab b 2) fun j=>ca 33 j 2 31 fun k=>kw 31 k fun l=>cN .gtr 3 l (qi 20) fun m=>ao [m]) fun n=>aC n (ao (.bool false)) (aU .add 3 (ab b 2) (qi 1) fun o=>a [ab b 0,ab b 1,o])) (cO 23 (ab b 0) fun p=>aU .leq 3 p (ab b 1) fun q=>ao q)
def FL6_0(call:CC):FW (L6_0 call ak):=hY
def S6(call:CC)(fx:bk AV)(a0 a1:AV):M AV:=fx (L6_0 call fx) [a0,a1,qi 0]
def C6(a0 a1:AV):af pg 6 [a0,a1]=bn (S6 (af pg) ak (cl aF a0) (cl aF a1)):=cY
def S8(call:CC)(fx:bk AV)(a0:AV):M AV:=eX 39 (qc a0) fun a=>au (call 26 [a]) fun b=>jd b 0 fun c=>jd b 1 fun d=>oq UnOp.not d fun e=>aC e (iz false 39 [] fun f=>fH 13 [] f fun g=>ao (.tup [.agg (m5 (aa g)),qi 1])) (dU c fun h=>ct 82 h 0 fun i=>ct 39 i 5 fun j=>eI 4 j fun k=>aC k (dU c fun l=>ct 82 l 0 fun m=>eI 39 m fun n=>fH 13 [] n fun o=>ao (.tup [.agg (m5 (aa o)),qi 7])) (au (call 27 [c]) fun p=>dU c fun q=>ct 82 q 0 fun r=>eI 39 r fun s=>fH 13 [] s fun u=>ao (.tup [.agg (m5 (aa u)),qi 0])))
def C8(a0:AV):af pg 8 [a0]=bn (S8 (af pg) ak (cl aF a0)):=cY
def S12(call:CC)(fx:bk AV)(a0:AV):M AV:=iz false 33 [(0,qi 0),(1,a0)] fun a=>fH 4 [] a fun b=>ao (.agg (gy (aa b)))
def C12(a0:AV):af pg 12 [a0]=bn (S12 (af pg) ak (cl aF a0)):=cY
def K13_0(call:CC)(fx:bk AV)(a:List AV):M AV:=dU (ab a 0) fun b=>ct 82 b 0 fun c=>ct 39 c 5 fun d=>eI 4 d fun e=>oq UnOp.not e fun f=>aC f (dU (ab a 0) fun g=>ct 82 g 0 fun h=>eI 39 h fun i=>fH 13 [] i fun j=>ao (.tup [.agg (m5 (aa j)),qi 16])) (dU (ab a 0) fun k=>ct 82 k 0 fun l=>eI 39 l fun m=>fH 13 [] m fun n=>ao (.tup [.agg (m5 (aa n)),qi 0]))
def L13_0(call:CC)(fx:bk AV)(a:RR)(b:RR)(c:List AV):M AV:=bY .lss 3 (ab c 2) (ab c 1) (dU (ab c 0) fun d=>ct 82 d 0 fun e=>ct 39 e 5 fun f=>eI 4 f fun g=>aC g (a [ab c 0,ab c 3,ab c 4,ab c 5,ab c 6,ab c 7,ab c 8,ab c 9,ab c 10,ab c 11,ab c 12,ab c 13,ab c 14,ab c 15]) (au (call 27 [ab c 0]) fun h=>aU .add 3 (ab c 2) (qi 1) fun i=>b [ab c 0,ab c 1,i,ab c 3,ab c 4,ab c 5,ab c 6,ab c 7,ab c 8,ab c 9,ab c 10,ab c 11,ab c 12,ab c 13,ab c 14,ab c 15])) (a [ab c 0,ab c 3,ab c 4,ab c 5,ab c 6,ab c 7,ab c 8,ab c 9,ab c 10,ab c 11,ab c 12,ab c 13,ab c 14,ab c 15])
def FL13_0(call:CC)(a:RR):FW (L13_0 call ak a):=hY
def S13(call:CC)(fx:bk AV)(a0 a1:AV):M AV:=eX 39 (qc a0) fun a=>au (call 26 [a]) fun b=>jd b 0 fun c=>jd b 1 fun d=>oq UnOp.not d fun e=>eG e (cN .lss 3 a1 (qi 0) fun f=>ao [f]) fun g=>eG g (cN .gtr 3 a1 (qi 100000) fun h=>ao [h]) fun i=>aC i (iz false 39 [] fun j=>fH 13 [] j fun k=>ao (.tup [.agg (m5 (aa k)),qi 1])) (jn (K13_0 call fx) fun l=>fx (L13_0 call fx l) [c,a1,qi 0,.sl [],.sl [],.sl [],.sl [],qi 0,qi 0,qi 0,.sl [],.sl [],.sl [],.sl [],.sl [],.bool false])
def C13(a0 a1:AV):af pg 13 [a0,a1]=bn (S13 (af pg) ak (cl aF a0) (cl aF a1)):=cY
def L14_0(call:CC)(fx:bk AV)(a:RR)(b:List AV):M AV:=aR 37 (ab b 0) 2 34 fun c=>cO 34 c fun d=>bY .lss 3 (ab b 2) d (aR 37 (ab b 0) 2 34 fun e=>eH 34 e (ab b 2) 101 fun f=>aR 37 (ab b 1) 2 34 fun g=>eH 34 g (ab b 2) 101 fun h=>bY .neq 101 f h (ao (.bool false)) (aU .add 3 (ab b 2) (qi 1) fun i=>a [ab b 0,ab b 1,i])) (aR 37 (ab b 0) 3 35 fun j=>aR 37 (ab b 1) 3 35 fun k=>au (call 33 [j,k]) fun l=>fk l (ca 37 (ab b 0) 4 28 fun m=>ca 37 (ab b 1) 4 28 fun n=>au (call 34 [m,n]) fun o=>ao [o]) fun p=>ao p)
def FL14_0(call:CC):FW (L14_0 call ak):=hY
def S14(call:CC)(fx:bk AV)(a0 a1:AV):M AV:=aR 37 (qc a0) 0 30 fun a=>aR 37 (qc a1) 0 30 fun b=>aU .neq 30 a b fun c=>eG c (ca 37 (qc a0) 2 34 fun d=>kw 34 d fun e=>ca 37 (qc a1) 2 34 fun f=>kw 34 f fun g=>cN .neq 3 e g fun h=>ao [h]) fun i=>eG i (ca 37 (qc a0) 1 33 fun j=>ca 37 (qc a1) 1 33 fun k=>au (call 28 [j,k]) fun l=>m9 UnOp.not l fun m=>ao [m]) fun n=>aC n (ao (.bool false)) (fx (L14_0 call fx) [qc a0,qc a1,qi 0])
def C14(a0 a1:AV):af pg 14 [a0,a1]=bn (S14 (af pg) ak (cl aF a0) (cl aF a1)):=cY
def S15(call:CC)(fx:bk AV)(a0 a1 a2 a3 a4 a5:AV):M AV:=au (call 21 [a0]) fun a=>jd a 0 fun b=>jd a 1 fun c=>bY .neq 30 c (qi 0) (iz false 37 [(0,c)] fun d=>fH 8 [] d fun e=>ao (.agg (SA (aa e)))) (au (call 35 [a0,b,a1,a2,a3,a4,a5]) fun f=>fH 8 [] f fun g=>ao (.agg (SA (aa g))))
def C15(a0 a1 a2 a3 a4 a5:AV):af pg 15 [a0,a1,a2,a3,a4,a5]=bn (S15 (af pg) ak (cl aF a0) (cl aF a1) (cl aF a2) (cl aF a3) (cl aF a4) (cl aF a5)):=cY
def L20_0(call:CC)(fx:bk AV)(a:RR)(b:RR)(c:List AV):M AV:=bY .lss 3 (ab c 9) (ab c 8) (eH 115 (ab c 7) (ab c 9) 75 fun d=>jv 4 d fun e=>eX 75 (qc e) fun f=>au (call 42 [f]) fun g=>jd g 0 fun h=>jd g 1 fun i=>oq UnOp.not i fun j=>aC j (ao (.tup [AV.nilp,qi 13])) (dU (ab c 1) fun k=>ct 82 k 2 fun l=>eI 80 l fun m=>aR 55 (ab c 3) 0 9 fun n=>aR 75 (qc e) 0 9 fun o=>iz false 84 [(0,n),(1,o)] fun p=>aR 55 (ab c 3) 4 51 fun q=>jU 51 q (ab c 9) fun r=>aR 110 r 1 4 fun s=>eX 75 (qc e) fun u=>iz false 77 [(0,ab c 2),(1,s),(2,u),(3,h)] fun v=>au (oG T 80 m p v) fun w=>aU .add 3 (ab c 9) (qi 1) fun x=>b (VZ c [x]))) (aU .add 3 (ab c 6) (qi 1) fun y=>a [ab c 0,ab c 1,ab c 4,ab c 5,y])
def L20_1(call:CC)(fx:bk AV)(a:RR)(b:List AV):M AV:=bY .lss 3 (ab b 4) (ab b 3) (eH 22 (ab b 2) (ab b 4) 55 fun c=>jv 9 c fun d=>eX 55 (qc d) fun e=>au (call 41 [e]) fun f=>cO 115 f fun g=>fx (L20_0 call fx a) [ab b 0,ab b 1,ab b 4,qc d,ab b 2,ab b 3,ab b 4,f,g,qi 0]) (au (call 43 [ab b 0]) fun h=>dU (ab b 1) fun i=>ct 82 i 0 fun j=>ct 39 j 0 fun k=>na 22 k h fun l=>ao (.tup [ab b 1,qi 0]))
def L20_2(call:CC)(fx:bk AV)(a:RR)(b:List AV):M AV:=bY .lss 3 (ab b 4) (ab b 3) (eH 22 (ab b 2) (ab b 4) 55 fun c=>jv 9 c fun d=>eX 55 (qc d) fun e=>au (call 40 [e]) fun f=>oq UnOp.not f fun g=>aC g (ao (.tup [AV.nilp,qi 1])) (aU .add 3 (ab b 4) (qi 1) fun h=>a (nP b [h]))) (cO 22 (ab b 0) fun i=>fx (L20_1 call fx) [ab b 0,ab b 1,ab b 0,i,qi 0])
def L20_3(call:CC)(fx:bk AV)(a:RR)(b:List AV):M AV:=bY .lss 3 (ab b 4) (ab b 3) (eH 22 (ab b 2) (ab b 4) 55 fun c=>jv 9 c fun d=>dU (ab b 1) fun e=>ct 82 e 1 fun f=>eI 79 f fun g=>aR 55 (qc d) 0 9 fun h=>au (ec T 79 g h true) fun i=>jd i 0 fun j=>jd i 1 fun k=>aC k (ao (.tup [AV.nilp,qi 5])) (dU (ab b 1) fun l=>ct 82 l 1 fun m=>eI 79 m fun n=>aR 55 (qc d) 0 9 fun o=>au (oG T 79 n o (ab b 4)) fun p=>aU .add 3 (ab b 4) (qi 1) fun q=>a (nP b [q]))) (cO 22 (ab b 0) fun r=>fx (L20_2 call fx) [ab b 0,ab b 1,ab b 0,r,qi 0])
def FL20_0(call:CC)(a:RR):FW (L20_0 call ak a):=hY
def FL20_1(call:CC):FW (L20_1 call ak):=hY
def FL20_2(call:CC):FW (L20_2 call ak):=hY
def FL20_3(call:CC):FW (L20_3 call ak):=hY
def S20(call:CC)(fx:bk AV)(a0:AV):M AV:=cO 22 a0 fun a=>bY .gtr 3 a (qi 20) (ao (.tup [AV.nilp,qi 6])) (au ga fun b=>au ga fun c=>iz true 82 [(1,b),(2,c)] fun d=>au (newH (aa d)) fun e=>cO 22 a0 fun f=>fx (L20_3 call fx) [a0,e,a0,f,qi 0])
def C20(a0:AV):af pg 20 [a0]=S20 (af pg) ak a0:=cZ
def S37(call:CC)(fx:bk AV)(a0:AV):M AV:=eX 106 (qc a0) fun a=>au (call 84 [a,qi 40]) fun b=>aU .leq 3 b (qi 40) fun c=>fk c (OH 106 (qc a0) fun d=>au (call 85 [d]) fun e=>ao [e]) fun f=>ao f
def C37(a0:AV):af pg 37 [a0]=bn (S37 (af pg) ak (cl aF a0)):=cY
def K40_0(call:CC)(fx:bk AV)(a:List AV):M AV:=ct 55 (ab a 0) 6 fun b=>aR 53 b 0 49 fun c=>au (call 89 [c,qi 8]) fun d=>fk d (Gb 55 (ab a 0) 6 fun e=>ca 53 e 1 50 fun f=>au (call 92 [f,ab a 2]) fun g=>ao [g]) fun h=>fk h (Gb 55 (ab a 0) 6 fun i=>ca 53 i 2 50 fun j=>au (call 92 [j,ab a 1]) fun k=>ao [k]) fun l=>ao l
def L40_0(call:CC)(fx:bk AV)(a:RR)(b:List AV):M AV:=bY .lss 3 (ab b 4) (ab b 3) (eH 51 (ab b 2) (ab b 4) 110 fun c=>jv 12 c fun d=>aR 110 (qc d) 0 9 fun e=>au (ec T 149 (ab b 1) e false) fun f=>eG f (ca 110 (qc d) 0 9 fun g=>au (call 88 [g]) fun h=>m9 UnOp.not h fun i=>ao [i]) fun j=>eG j (ca 110 (qc d) 2 49 fun k=>au (call 89 [k,qi 6]) fun l=>m9 UnOp.not l fun m=>ao [m]) fun n=>eG n (ca 110 (qc d) 3 106 fun o=>au (call 90 [o]) fun p=>m9 UnOp.not p fun q=>ao [q]) fun r=>eG r (ca 110 (qc d) 5 108 fun s=>au (call 91 [s]) fun u=>m9 UnOp.not u fun v=>ao [v]) fun w=>eG w (ca 110 (qc d) 4 3 fun x=>cN .andNot 3 x (qi 15) fun y=>cN .neq 3 y (qi 0) fun z=>ao [z]) fun A=>aC A (ao (.bool false)) (aR 110 (qc d) 0 9 fun B=>au (oG T 149 (ab b 1) B (.bool true)) fun C=>aU .add 3 (ab b 4) (qi 1) fun D=>a (nP b [D]))) (aR 55 (ab b 0) 0 9 fun E=>au (call 88 [E]) fun F=>oq UnOp.not F fun G=>eG G (ca 55 (ab b 0) 1 31 fun H=>kw 31 H fun I=>cN .gtr 3 I (qi 12) fun J=>ao [J]) fun K=>eG K (ca 55 (ab b 0) 4 51 fun L=>kw 51 L fun N=>cN .gtr 3 N (qi 30) fun O=>ao [O]) fun P=>eG P (ca 55 (ab b 0) 2 49 fun Q=>au (call 89 [Q,qi 8]) fun R=>m9 UnOp.not R fun S=>ao [S]) fun U=>eG U (ca 55 (ab b 0) 3 50 fun V=>ca 55 (ab b 0) 2 49 fun W=>kw 49 W fun X=>au (call 92 [V,X]) fun Y=>m9 UnOp.not Y fun Z=>ao [Z]) fun u0=>aC u0 (ao (.bool false)) (ct 55 (ab b 0) 6 fun u1=>aR 53 u1 0 49 fun u2=>cO 49 u2 fun u3=>aR 55 (ab b 0) 2 49 fun u4=>cO 49 u4 fun u5=>jn (K40_0 call fx) fun u6=>aR 55 (ab b 0) 5 4 fun u7=>oq UnOp.not u7 fun u8=>aC u8 (bY .gtr 3 u3 (qi 0) (ao (.bool false)) (u6 [ab b 0,u3,qi 0])) (u6 [ab b 0,u3,u5])))
def L40_1(call:CC)(fx:bk AV)(a:RR)(b:List AV):M AV:=bY .lss 3 (ab b 4) (ab b 3) (eH 31 (ab b 2) (ab b 4) 9 fun c=>au (ec T 149 (ab b 1) c false) fun d=>eG d (au (call 88 [c]) fun e=>m9 UnOp.not e fun f=>ao [f]) fun g=>aC g (ao (.bool false)) (au (oG T 149 (ab b 1) c (.bool true)) fun h=>aU .add 3 (ab b 4) (qi 1) fun i=>a (nP b [i]))) (au ga fun j=>aR 55 (ab b 0) 4 51 fun k=>cO 51 k fun l=>fx (L40_0 call fx) [ab b 0,j,k,l,qi 0])
def FL40_0(call:CC):FW (L40_0 call ak):=hY
def FL40_1(call:CC):FW (L40_1 call ak):=hY
def S40(call:CC)(fx:bk AV)(a0:AV):M AV:=au ga fun a=>aR 55 (qc a0) 1 31 fun b=>cO 31 b fun c=>fx (L40_1 call fx) [qc a0,a,b,c,qi 0]
def C40(a0:AV):af pg 40 [a0]=bn (S40 (af pg) ak (cl aF a0)):=cY
def L44_0(call:CC)(fx:bk AV)(a:RR)(b:List AV):M AV:=bY .lss 3 (ab b 3) (ab b 2) (eH 22 (ab b 1) (ab b 3) 55 fun c=>jv 9 c fun d=>au (bP (da T 22 (ab b 0) none (some (ab b 3)) none)) fun e=>au (call 98 [e,.fn (Fn.func 99) [] [qc d]]) fun f=>aC f (ao (qi 5)) (aU .add 3 (ab b 3) (qi 1) fun g=>a (mS b [g]))) (ao (qi 0))
def FL44_0(call:CC):FW (L44_0 call ak):=hY
def S44(call:CC)(fx:bk AV)(a0:AV):M AV:=cO 22 a0 fun a=>bY .gtr 3 a (qi 20) (ao (qi 6)) (cO 22 a0 fun b=>fx (L44_0 call fx) [a0,a0,b,qi 0])
def C44(a0:AV):af pg 44 [a0]=bn (S44 (af pg) ak (cl aF a0)):=cY
def S46(call:CC)(fx:bk AV)(a0 a1:AV):M AV:=au (call 103 [a0,a1]) fun a=>aU .geq 3 a (qi 0) fun b=>ao b
def C46(a0 a1:AV):af pg 46 [a0,a1]=bn (S46 (af pg) ak (cl aF a0) (cl aF a1)):=cY
def L86_0(call:CC)(fx:bk AV)(a:RR)(b:List AV):M AV:=aR 108 (ab b 1) 5 50 fun c=>cO 50 c fun d=>aU .lss 3 (ab b 3) d fun e=>fk e (cN .leq 3 (ab b 2) (ab b 0) fun f=>ao [f]) fun g=>aC g (aR 108 (ab b 1) 5 50 fun h=>eH 50 h (ab b 3) 108 fun i=>aU .sub 3 (ab b 0) (ab b 2) fun j=>au (call 86 [i,j]) fun k=>aU .add 3 (ab b 2) k fun l=>aU .add 3 (ab b 3) (qi 1) fun m=>a [ab b 0,ab b 1,l,m]) (ao (ab b 2))
def FL86_0(call:CC):FW (L86_0 call ak):=hY
def S86(call:CC)(fx:bk AV)(a0 a1:AV):M AV:=fx (L86_0 call fx) [a1,qc a0,qi 1,qi 0]
theorem C86(a0 a1:AV):af pg 86 [a0,a1]=bn (S86 (af pg) ak (cl aF a0) (cl aF a1)):=cY
def S101(call:CC)(fx:bk AV)(a0 a1 a2 a3:AV):M AV:=eX 164 a0 fun a=>eX 31 a1 fun b=>eX 23 a2 fun c=>iz false 189 [(0,qi (-1)),(1,b),(2,c)] fun d=>eX 108 a3 fun e=>au (call 102 [a,d,e]) fun f=>fH 4 [] f fun g=>ao (.agg (gy (aa g)))
def C101(a0 a1 a2 a3:AV):af pg 101 [a0,a1,a2,a3]=S101 (af pg) ak a0 a1 a2 a3:=cZ
def S116(call:CC)(fx:bk AV)(a0 a1 a2:AV):M AV:=dU a0 fun a=>ct 82 a 0 fun b=>ct 39 b 1 fun c=>eI 28 c fun d=>dU a0 fun e=>ct 82 e 1 fun f=>eI 79 f fun g=>dU a1 fun h=>ct 46 h 0 fun i=>eI 9 i fun j=>au (ec T 79 g j false) fun k=>jU 28 d k fun l=>ct 61 l 1 fun m=>eI 23 m fun n=>aR 133 (qc a2) 1 3 fun o=>cO 23 n fun p=>bY .geq 3 o p (ao (qi 12)) (aR 133 (qc a2) 0 3 fun q=>bY .eql 3 q (qi 16) (aR 133 (qc a2) 1 3 fun r=>jU 23 n r fun s=>eI 33 s fun u=>au (call 109 [a1,u]) fun v=>ao (qi 0)) (aR 133 (qc a2) 1 3 fun w=>au (call 112 [a1,qi 1]) fun x=>jU 23 x (qi 0) fun y=>eI 33 y fun z=>jU 23 n w fun A=>na 33 A z fun B=>ao (qi 0)))
def C116(a0 a1 a2:AV):af pg 116 [a0,a1,a2]=S116 (af pg) ak a0 a1 a2:=cZ
def S118(call:CC)(fx:bk AV)(a0 a1:AV):M AV:=au (call 112 [a0,qi 2]) fun a=>jU 23 a (qi 0) fun b=>eI 33 b fun c=>jU 23 a (qi 1) fun d=>eI 33 d fun e=>jv 4 c fun f=>jv 4 e fun g=>aR 33 (qc f) 0 3 fun h=>aU .eql 3 h (qi 0) fun i=>fk i (ca 33 (qc g) 0 3 fun j=>cN .eql 3 j (qi 0) fun k=>ao [k]) fun l=>oq UnOp.not l fun m=>au (aK m true 1 (cN .neq 3 a1 (qi 8) fun n=>ao [n])) fun o=>au (aK (ab o 0) false 1 (ca 33 (qc f) 0 3 fun p=>cN .neq 3 p (qi 1) fun q=>ao [q])) fun r=>au (aK m true 1 (zi (ab o 0) (.bool true) (ab r 0) fun s=>ao [s])) fun u=>au (aK (ab u 0) false 1 (ca 33 (qc g) 0 3 fun v=>cN .neq 3 v (qi 1) fun w=>ao [w])) fun x=>fk m (zi (ab u 0) (.bool true) (ab x 0) fun y=>ao [y]) fun z=>aC z (ao (qi 13)) (au (call 111 [a0,qi 2]) fun A=>bY .eql 3 a1 (qi 4) (aR 33 (qc f) 1 3 fun B=>aR 33 (qc g) 1 3 fun C=>aU .add 3 B C fun D=>au (call 49 [D]) fun E=>au (call 109 [a0,E]) fun F=>ao (qi 0)) (bY .eql 3 a1 (qi 5) (aR 33 (qc f) 1 3 fun G=>aR 33 (qc g) 1 3 fun H=>aU .sub 3 G H fun I=>au (call 49 [I]) fun J=>au (call 109 [a0,J]) fun K=>ao (qi 0)) (bY .eql 3 a1 (qi 6) (aR 33 (qc f) 1 3 fun L=>aR 33 (qc g) 1 3 fun N=>aU .mul 3 L N fun O=>au (call 49 [O]) fun P=>au (call 109 [a0,P]) fun Q=>ao (qi 0)) (bY .eql 3 a1 (qi 7) (aR 33 (qc f) 1 3 fun R=>aR 33 (qc g) 1 3 fun S=>aU .lss 3 R S fun U=>au (call 110 [U]) fun V=>au (call 109 [a0,V]) fun W=>ao (qi 0)) (aR 33 (qc f) 1 3 fun X=>aR 33 (qc g) 1 3 fun Y=>aU .eql 3 X Y fun Z=>au (call 110 [Z]) fun u0=>au (call 109 [a0,u0]) fun u1=>ao (qi 0))))))
def C118(a0 a1:AV):af pg 118 [a0,a1]=S118 (af pg) ak a0 a1:=cZ
def S119(call:CC)(fx:bk AV)(a0:AV):M AV:=aU .geq 5 a0 (.int .u8 97) fun a=>fk a (cN .leq 5 a0 (.int .u8 122) fun b=>ao [b]) fun c=>ao c
def C119(a0:AV):af pg 119 [a0]=bn (S119 (af pg) ak (cl aF a0)):=cY
def S137(call:CC)(fx:bk AV)(a0 a1:AV):M AV:=aR 55 (qc a0) 0 9 fun a=>eX 9 a1 fun b=>aU .eql 9 a b fun c=>ao c
def C137(a0 a1:AV):af pg 137 [a0,a1]=bn (S137 (af pg) ak (cl aF a0) (cl aF a1)):=cY
def S142(call:CC)(fx:bk AV)(a0 a1 a2:AV):M AV:=aR 189 (qc a0) 0 3 fun a=>aR 189 (qc a0) 1 31 fun b=>au (dz (call 170 [b])) fun c=>sB 31 1 [(0,a1)] fun d=>au (bP (dJ T 31 c d)) fun e=>aR 189 (qc a0) 2 23 fun f=>au (dz (call 171 [f])) fun g=>eX 33 (qc a2) fun h=>sB 23 1 [(0,h)] fun i=>au (bP (dJ T 23 g i)) fun j=>iz false 189 [(0,a),(1,e),(2,j)] fun k=>fH 3 [] k fun l=>ao (.agg (Sz (aa l)))
def C142(a0 a1 a2:AV):af pg 142 [a0,a1,a2]=bn (S142 (af pg) ak (cl aF a0) (cl aF a1) (cl aF a2)):=cY
def S146(call:CC)(fx:bk AV)(a0:AV):M AV:=iz false 108 [(0,qi 1),(1,a0)] fun a=>fH 6 [] a fun b=>ao (.agg (uT (aa b)))
def C146(a0:AV):af pg 146 [a0]=bn (S146 (af pg) ak (cl aF a0)):=cY
def L152_0(call:CC)(fx:bk AV)(a:RR)(b:List AV):M AV:=bY .lss 3 (ab b 3) (ab b 2) (eH 31 (ab b 1) (ab b 3) 9 fun c=>au (call 88 [c]) fun d=>oq UnOp.not d fun e=>au (aK e false 1 (cN .gtr 3 (ab b 3) (qi 0) fun f=>ao [f])) fun g=>au (aK (ab g 0) true 1 (cN .sub 3 (ab b 3) (qi 1) fun h=>Ww 31 (ab b 0) h 9 fun i=>cN .geq 9 i c fun j=>ao [j])) fun k=>eG e (zi (ab g 0) (ab k 0) (.bool false) fun l=>ao [l]) fun m=>aC m (ao (.bool false)) (aU .add 3 (ab b 3) (qi 1) fun n=>a (mS b [n]))) (cO 31 (ab b 0) fun o=>aU .leq 3 o (qi 8) fun p=>ao p)
def FL152_0(call:CC):FW (L152_0 call ak):=hY
def S152(call:CC)(fx:bk AV)(a0:AV):M AV:=cO 31 a0 fun a=>fx (L152_0 call fx) [a0,a0,a,qi 0]
theorem C152(a0:AV):af pg 152 [a0]=bn (S152 (af pg) ak (cl aF a0)):=cY
def S171(call:CC)(fx:bk AV)(a0:AV):M AV:=cO 23 a0 fun a=>cO 23 a0 fun b=>au (bP (da T 23 a0 none (some a) (some b))) fun c=>ao c
def C171(a0:AV):af pg 171 [a0]=bn (S171 (af pg) ak (cl aF a0)):=cY
def L175_0(call:CC)(fx:bk AV)(a:RR)(b:List AV):M AV:=bY .lss 3 (ab b 3) (ab b 2) (eH 49 (ab b 0) (ab b 3) 154 fun c=>au (cU call (ab b 1) [c]) fun d=>aC d (ao (ab b 3)) (aU .add 3 (ab b 3) (qi 1) fun e=>a (mS b [e]))) (ao (qi (-1)))
def FL175_0(call:CC):FW (L175_0 call ak):=hY
def S175(call:CC)(fx:bk AV)(a0 a1:AV):M AV:=cO 49 a0 fun a=>fx (L175_0 call fx) [a0,a1,a,qi 0]
def C175(a0 a1:AV):af pg 175 [a0,a1]=bn (S175 (af pg) ak (cl aF a0) (cl aF a1)):=cY
end
end Go.Proofs.YtbndmpiddinalabGreatDoor
