/- What the functions compute, part 2. Conditions: bounds. -/
import Derived.Test.YtihmmkncokjbaaaGreatDoorTa
import Derived.Lib.ConvBytes
import Derived.Lib.AtoiErrMem
import Derived.Tactics
import Derived.Tactics2
import Derived.Defers
import Derived.Recover
import Derived.Laws.Rows
import Derived.WalkSmall
import Derived.Laws.BytesArg
import Derived.Laws.IdiomStrings
import Derived.Deep.LoopGhost
import Derived.Test.YtihmmkncokjbaaaGreatDoorRows
import Derived.Lib.LaidTab
import Derived.Stop.LaidErr
import Derived.Shelf.Vars
import Derived.ProofKit
import Derived.Deep.DeepHandedRow
import Derived.Deep.DeepWitnessRowRef
import Derived.Deep.DeepLaidRun
set_option linter.defProp false
set_option linter.unusedSimpArgs false
set_option linter.unusedVariables false
namespace Go.Proofs.YtihmmkncokjbaaaGreatDoor
open Go Go.Av Go.RowKit
set_option maxRecDepth 100000
def MG(x:UInt8):Value:=.int .u8 x.toNat
set_option maxHeartbeats 4000000 in
def xR(w:World):PredAt Tryz.prog 144 #[] MG (fun x=>!cN x) w:=fun W x hb=>by
 show Calls Tryz.prog 144 #[.int .u8 x.toNat] W _
 go_enter Tryz.func144,Tryz.ntmps144
 go_wp2
 all_goals (go_ret;refine⟨?_,0,rfl⟩)
 all_goals (simp[cN]at *)
 all_goals (try omega)
 all_goals (try (rw[QG];simp;omega))
def CK(l:List UInt8):(!(l.any fun x=>!cN x))=l.all cN:=by
 induction l with
 |nil=>rfl
 |cons a l ih=>simp only[Sd,QH,<- ih];cases cN a<;>simp
def getD_at(l:List UInt8)(j:Nat)(h:j<l.length):l.getD j 0=l[j]!:=by
 rw[Qw,P1 h,PY l j h];rfl
set_option maxHeartbeats 4000000 in
def CM(x:ByteArray)(w:World)(hx:x.size<4294967281):Calls Tryz.prog 95 #[.string x] w fun e w'=>e= .returned (.bool (eW x.data.toList))/\Below w.heap.size w w':=by
 have eg:∀args w,(callFunc 144 args).run Tryz.prog w= .ok (.enter 144 args) w:=enters_of Tryz.func144 (by kernel_rfl) rfl;have hsz:x.data.toList.length=x.size:=by rw[QE];rfl
 have kc:=Go.Lib.run_convert_string_bytes (P:=Tryz.prog) w 9 119 5 x Tryz.underlying9 Tryz.underlying119 Tryz.underlying5;have hcon:=AnyE.slices_ContainsFunc PF MG (fun x=>!cN x) 144 #[] eg w.heap.size 0 x.size (grownCap w x.size 0 5) x.data.toList (Go.Lib.bytesWorld w 5 x) (xR _) (by omega) (by omega) (fun j hj=>by
  rw[Qb,Go.Lib.bytesWorld_cell w 5 x j (by omega),getD_at _ _ hj];rfl)
 rw[show x.size=x.data.toList.length from hsz.symm,Rt]at hcon;change Calls Tryz.prog 143 #[_,.func (.func 144) #[] #[]] _ _ at hcon;have hcon':=hcon;rw[hsz]at hcon';clear hcon;have hpl:=CK x.data.toList;generalize (x.data.toList.any fun x=>!cN x)=b at hcon' hpl;have hdef:eW x.data.toList=(!x.data.toList.isEmpty&&!b):=by rw[eW,hpl]
 have hbel:Below w.heap.size w (Go.Lib.bytesWorld w 5 x):=Go.Lib.bytesWorld_below _ _ _;have hemp:x.data.toList.isEmpty=decide (x=⟨#[]⟩):=by
  obtain⟨⟨l⟩⟩:=x;cases l<;>simp
 rw[hdef,hemp];have key:∀(W:World)(sl:Value),(convert 9 119 (.string x)).run Tryz.prog w= .ok sl W->Calls Tryz.prog 143 #[sl,.func (.func 144) #[] #[]] W (fun e w'=>e= .returned (.bool b)/\∃q,w'=W.drewN q)->Below w.heap.size w W->
   Calls Tryz.prog 95 #[.string x] w fun e w'=>e= .returned (.bool (!decide (x=⟨#[]⟩)&&!b))/\Below w.heap.size w w':=by
  clear hcon' hbel kc hdef hemp hpl hsz eg hx;intro W sl kc hcon' hbel;by_cases hx0:x=⟨#[]⟩
  ·subst hx0;clear kc hcon' hbel
   go_enter Tryz.func95,Tryz.ntmps95
   go_wp2
   go_ret
   exact⟨by simp,Below.refl _ _⟩
  ·have hx1:x.toList.isEmpty=false:=by
    rw[ByteArray.toList_eq];obtain⟨⟨l⟩⟩:=x;cases l with
    |nil=>exact absurd rfl hx0
    |cons=>rfl
   go_enter Tryz.func95,Tryz.ntmps95
   go_wp2_with (go_at_call 143;refine hcon'.mono ?_;rintro e w' ⟨rfl,q,rfl⟩)
   all_goals go_ret
   all_goals first
    |(refine⟨?_,Below.refl _ _⟩;simp_all;done)
    |(refine⟨?_,below_drewN' hbel _⟩;simp_all;done)
 exact key _ _ kc hcon' hbel
def M6(call:FuncId->List AV->M AV)(args:List AV)(h:Hp)(S:aP)(β:List cu)(w:World)(vs:List Value)(hr:oZ call args h≠.fail)(_hg:qp S β h w)(hw:Wf S w)(hh:cP S β w h)(hv:bQ S β args vs):
  Calls Tryz.prog 95 vs.toArray w (eo none S β h w (oZ call args h)):=by
 unfold oZ at hr |-;split at hr
 ·rename_i s;obtain⟨x,r,rfl,hx,hv⟩:=lj hv;simp only[bQ]at hv;subst hv;cases hc:decide (s.length<4294967281)with
  |false=>rw[hc]at hr;exact absurd rfl hr
  |true=>
   simp only[PV];have hlen:x.size=s.length:=by rw[<- hx,QE];rfl
   refine (CM x w (by have:=Ro hc;omega)).mono ?_;rintro e w' ⟨rfl,hb⟩;exact ey hw hh hb vq (by simp only[VR];rw[hx])
 ·exact absurd rfl hr
end Go.Proofs.YtihmmkncokjbaaaGreatDoor
namespace Go.Proofs.YtihmmkncokjbaaaGreatDoor
open Go Go.Av
def yU(p q:Addr)(w:World):CallsD Tryz.prog 165 #[.pointer (some p),.pointer (some q)] .returning w fun e u' w'=>e= .returned (.tuple #[])/\u'= .returning/\w'=w:=by
 refine callsD_of_wpS Tryz.func165 rfl fun c₀ cs hu=>?_;apply wpS_seq;apply wpS_region;simp[wpOpsS,go_sem,recoverD,hu,Tryz.ntmps165,Exit.thenS];refine wpS_of_wp ?_
 go_wp2
 cases c₀;simp_all[bodyPostS,results,Tryz.results165]
def E8(n:Int)(w:World):(Instr.typeAssert (.iface 39 (.int .i64 n)) 20 39 true).run Tryz.prog w= .ok (.tuple #[.int .i64 n,.bool true]) w:=by kernel_rfl
def Fg(w:World):(Instr.build 45 #[]).run Tryz.prog w= .ok (.agg #[.int .i64 0,.int .i64 0,.slice none 0 0,.slice none 0 0]) w:=by
 obtain⟨v,h1,h2⟩:=ww (P:=Tryz.prog) (T:=T) (w:=w) (S:=fun _ _=>none) (β:=[]) (told:=true) (t:=45) (parts:=[]) (r:=.agg [.int .i64 0,.int .i64 0,.hn,.hn]) (qs:=#[]) tok rfl rfl;rw[h1];simp only[VR,bQ]at h2;obtain⟨vs,rfl,a,_,rfl,rfl,b,_,rfl,rfl,c,_,rfl,rfl,d,_,rfl,rfl,rfl⟩:=h2;rfl
set_option maxHeartbeats 4000000 in
set_option maxRecDepth 100000 in
def B4(b c:Nat)(x0 x1 x2 x3 y0:Value)(n:Int)(w:World)(c0:w.cell? ⟨b,0,none⟩=some x0)(c1:w.cell? ⟨b,1,none⟩=some x1)(c2:w.cell? ⟨b,2,none⟩=some x2)(c3:w.cell? ⟨b,3,none⟩=some x3)(d0:w.cell? ⟨c,0,none⟩=some y0)(f0:w.frozen? ⟨b,0,none⟩=false)(f1:w.frozen? ⟨b,1,none⟩=false)(f2:w.frozen? ⟨b,2,none⟩=false)(f3:w.frozen? ⟨b,3,none⟩=false)(g0:w.frozen? ⟨c,0,none⟩=false)(hne:¬b=c)(hne':¬c=b):
  CallsD Tryz.prog 165 #[.pointer (some ⟨b,0,none⟩),.pointer (some ⟨c,0,none⟩)] (.panicking [{ v:=.iface 39 (.int .i64 n),recovered:=false }]) w fun e u' w'=>
   e= .returned (.tuple #[])/\u'= .panicking [{ v:=.iface 39 (.int .i64 n),recovered:=true }]/\w'=((((w.setCell ⟨b,0,none⟩ (.int .i64 0)).setCell ⟨b,1,none⟩ (.int .i64 0)).setCell ⟨b,2,none⟩ (.slice none 0 0)).setCell ⟨b,3,none⟩ (.slice none 0 0)).setCell ⟨c,0,none⟩ (.int .i64 n):=by
 refine callsD_of_wpS Tryz.func165 rfl fun c₀ cs hu=>?_;apply wpS_seq;apply wpS_region;simp[wpOpsS,go_sem,recoverD,hu,Tryz.ntmps165,Exit.thenS];refine wpS_of_wp ?_;have h1:=E8 n;have h2:=Fg
 go_wp2
 cases c₀;simp_all[bodyPostS,results,Tryz.results165]
end Go.Proofs.YtihmmkncokjbaaaGreatDoor
namespace Go.Proofs.YtihmmkncokjbaaaGreatDoor
open Go Go.Av
set_option maxHeartbeats 4000000 in
set_option maxRecDepth 100000 in
def xV(p q:Addr)(w:World):CallsD Tryz.prog 53 #[.pointer (some p),.pointer (some q)] .returning w fun e u' w'=>e= .returned (.tuple #[])/\u'= .returning/\w'=w:=by
 refine callsD_of_wpS Tryz.func53 rfl fun c₀ cs hu=>?_;apply wpS_seq;apply wpS_region;simp[wpOpsS,go_sem,recoverD,hu,Tryz.ntmps53,Exit.thenS];refine wpS_of_wp ?_
 go_wp2
 cases c₀;simp_all[bodyPostS,results,Tryz.results53]
def Fa(w:World):(Instr.typeAssert (.iface 81 (.agg #[])) 20 81 true).run Tryz.prog w= .ok (.tuple #[.agg #[],.bool true]) w:=by kernel_rfl
def yD(w:World):World:=w.alloc (.cells #[] 81)
set_option maxHeartbeats 4000000 in
set_option maxRecDepth 100000 in
def zX(b c:Nat)(x0 x1 x2 x3 y0:Value)(w:World)(c0:(yD w).cell? ⟨b,0,none⟩=some x0)(c1:(yD w).cell? ⟨b,1,none⟩=some x1)(c2:(yD w).cell? ⟨b,2,none⟩=some x2)(c3:(yD w).cell? ⟨b,3,none⟩=some x3)(d0:(yD w).cell? ⟨c,0,none⟩=some y0)(f0:(yD w).frozen? ⟨b,0,none⟩=false)(f1:(yD w).frozen? ⟨b,1,none⟩=false)(f2:(yD w).frozen? ⟨b,2,none⟩=false)(f3:(yD w).frozen? ⟨b,3,none⟩=false)(g0:(yD w).frozen? ⟨c,0,none⟩=false)(hne:¬b=c)(hne':¬c=b):
  CallsD Tryz.prog 53 #[.pointer (some ⟨b,0,none⟩),.pointer (some ⟨c,0,none⟩)] (.panicking [{ v:=.iface 81 (.agg #[]),recovered:=false }]) w fun e u' w'=>
   e= .returned (.tuple #[])/\u'= .panicking [{ v:=.iface 81 (.agg #[]),recovered:=true }]/\w'=(((((yD w).setCell ⟨b,0,none⟩ (.int .i64 0)).setCell ⟨b,1,none⟩ (.int .i64 0)).setCell ⟨b,2,none⟩ (.slice none 0 0)).setCell ⟨b,3,none⟩ (.slice none 0 0)).setCell ⟨c,0,none⟩ (.int .i64 34):=by
 unfold yD at *;refine callsD_of_wpS Tryz.func53 rfl fun c₀ cs hu=>?_;apply wpS_seq;apply wpS_region;simp[wpOpsS,go_sem,recoverD,hu,Tryz.ntmps53,Exit.thenS];refine wpS_of_wp ?_;have h1:=Fa;have h2:=Fg
 go_wp2
 cases c₀;simp_all[bodyPostS,results,Tryz.results53]
end Go.Proofs.YtihmmkncokjbaaaGreatDoor
namespace Go.Proofs.YtihmmkncokjbaaaGreatDoor
open Go Go.Av
set_option maxRecDepth 100000
def Ki(w:World)(k f:Value):World:=((w.alloc (Obj.cells #[k,f] 35)).alloc (Obj.cells #[Value.int IntKind.i64 0,Value.int IntKind.i64 0,Value.slice none 0 0,Value.slice none 0 0] 45)).alloc (Obj.cells #[Value.int IntKind.i64 0] 39)
def zY(w:World)(k f:Value)(x:ByteArray):World:=(Ki w k f).alloc (Obj.cells #[.string x] 85)
def lA(b:Nat)(w:World)(u0 u1 u2 u3:Value):World:=(((w.setCell ⟨b,0,none⟩ u0).setCell ⟨b,1,none⟩ u1).setCell ⟨b,2,none⟩ u2).setCell ⟨b,3,none⟩ u3
def dE(b:Nat)(w:World):World:=(lA b (yD w) (.int .i64 0) (.int .i64 0) (.slice none 0 0) (.slice none 0 0)).setCell ⟨b+1,0,none⟩ (.int .i64 34)
def mQ:Value:=.tuple #[.agg #[.int .i64 0,.int .i64 0,.slice none 0 0,.slice none 0 0],.int .i64 34]
abbrev MM:Ending:=.panicked [{ v:=.iface 81 (.agg #[]),recovered:=false }]
structure RdRows (n:Nat) (w:World) (k f u0 u1 u2 u3:Value):Prop where
 r0:w.heap[n]? = some (.cells #[k,f] 35 (0,0))
 r1:w.heap[n+1]? = some (.cells #[u0,u1,u2,u3] 45 (0,0))
 r2:w.heap[n+2]? = some (.cells #[Value.int IntKind.i64 0] 39 (0,0))
def rn{w:World}{b:Nat}{o:Obj}(h:w.heap[b]? = some o):(yD w).heap[b]? = some o:=by
 have hb:b<w.heap.size:=by
  rcases Qn b w.heap.size with h1|h1
  ·exact h1
  ·rw[QM h1]at h;cases h
 unfold yD;rw[Go.Av.alloc_old _ _ hb];exact h
def RdRows.vcells{n:Nat}{w:World}{k f x0 x1 x2 x3:Value}(H:RdRows n w k f x0 x1 x2 x3):(w.cell? ⟨n+1,0,none⟩=some x0/\w.cell? ⟨n+1,1,none⟩=some x1/\w.cell? ⟨n+1,2,none⟩=some x2/\w.cell? ⟨n+1,3,none⟩=some x3/\w.cell? ⟨n+2,0,none⟩=some (.int .i64 0))/\
  (w.frozen? ⟨n+1,0,none⟩=false/\w.frozen? ⟨n+1,1,none⟩=false/\w.frozen? ⟨n+1,2,none⟩=false/\w.frozen? ⟨n+1,3,none⟩=false/\w.frozen? ⟨n+2,0,none⟩=false):=
 ⟨⟨by simp[World.cell?,H.r1],by simp[World.cell?,H.r1],by simp[World.cell?,H.r1],by simp[World.cell?,H.r1],by simp[World.cell?,H.r2]⟩,by simp[World.frozen?,H.r1],by simp[World.frozen?,H.r1],by simp[World.frozen?,H.r1],by simp[World.frozen?,H.r1],by simp[World.frozen?,H.r2]⟩
def RdRows.put{n:Nat}{w:World}{k f x0 x1 x2 x3:Value}(H:RdRows n w k f x0 x1 x2 x3)(u0 u1 u2 u3:Value):RdRows n (lA (n+1) w u0 u1 u2 u3) k f u0 u1 u2 u3:=by
 have e0:=heap_setCell_same w (n+1) 0 _ _ u0 H.r1;have e1:=heap_setCell_same _ (n+1) 1 _ _ u1 e0;have e2:=heap_setCell_same _ (n+1) 2 _ _ u2 e1;have e3:=heap_setCell_same _ (n+1) 3 _ _ u3 e2;refine⟨?_,e3,?_⟩
 ·unfold lA;rw[bB (by simp),bB (by simp),bB (by simp),bB (by simp)];exact H.r0
 ·unfold lA;rw[bB (by simp),bB (by simp),bB (by simp),bB (by simp)];exact H.r2
def qA{n:Nat}{w:World}{k f x0 x1 x2 x3:Value}(H:RdRows n w k f x0 x1 x2 x3):CallsD Tryz.prog 53 #[.pointer (some ⟨n+1,0,none⟩),.pointer (some ⟨n+2,0,none⟩)] (.panicking [{ v:=.iface 81 (.agg #[]),recovered:=false }]) w fun e u' w'=>
   e= .returned (.tuple #[])/\u'= .panicking [{ v:=.iface 81 (.agg #[]),recovered:=true }]/\w'=dE (n+1) w:=by
 have r1:=rn H.r1;have r2:=rn H.r2;exact zX (n+1) (n+2) x0 x1 x2 x3 (.int .i64 0) w (by simp[World.cell?,r1]) (by simp[World.cell?,r1]) (by simp[World.cell?,r1]) (by simp[World.cell?,r1]) (by simp[World.cell?,r2])
  (by simp[World.frozen?,r1]) (by simp[World.frozen?,r1]) (by simp[World.frozen?,r1]) (by simp[World.frozen?,r1]) (by simp[World.frozen?,r2]) (by omega) (by omega)
def kT{n:Nat}{w:World}{k f x0 x1 x2 x3:Value}(H:RdRows n w k f x0 x1 x2 x3):(dE (n+1) w).heap[n+1]? = some (.cells #[.int .i64 0,.int .i64 0,.slice none 0 0,.slice none 0 0] 45 (0,0))/\(dE (n+1) w).heap[n+2]? = some (.cells #[Value.int IntKind.i64 34] 39 (0,0)):=by
 have H':RdRows n (yD w) k f x0 x1 x2 x3:=⟨rn H.r0,rn H.r1,rn H.r2⟩;have P:=H'.put (.int .i64 0) (.int .i64 0) (.slice none 0 0) (.slice none 0 0);refine⟨?_,?_⟩
 ·unfold dE;rw[bB (by simp)];exact P.r1
 ·exact heap_setCell_same _ (n+2) 0 _ _ _ P.r2
def we(n:Nat)(k f u0 u1 u2 u3:Value)(R:Ending->World->Prop):Ending->World->Prop:=fun e w'=>RdRows n w' k f u0 u1 u2 u3/\
 ((e= .returned (.bool true)/\R (.returned (.tuple #[.agg #[u0,u1,u2,u3],.int .i64 0])) ((lA (n+1) w' u0 u1 u2 u3).setCell ⟨n+2,0,none⟩ (.int .i64 0)))\/
  ((e= .returned (.bool false)\/e=MM)/\R (.returned mQ) (dE (n+1) w')))
def wg(n:Nat)(k f:Value)(R:Ending->World->Prop):Ending->World->Prop:=fun e w'=>RdRows n w' k f (.int .i64 0) (.int .i64 0) (.slice none 0 0) (.slice none 0 0)/\
 ((∃(u0 u1 u2 u3:Value)(y:ByteArray),u0.oneCell'=true/\u1.oneCell'=true/\u2.oneCell'=true/\u3.oneCell'=true/\e= .returned (.agg #[u0,u1,u2,u3])/\w'.cell? ⟨n+3,0,none⟩=some (.string y)/\
   ((y.toList.isEmpty=false/\R (.returned mQ) (dE (n+1) (lA (n+1) w' u0 u1 u2 u3)))\/
    (y=⟨#[]⟩/\Calls Tryz.prog 20 #[.agg #[k,f],.agg #[u0,u1,u2,u3]] (lA (n+1) w' u0 u1 u2 u3) (we n k f u0 u1 u2 u3 R))))\/
   (e=MM/\R (.returned mQ) (dE (n+1) w')))
def mD{w:World}{a:Addr}{v x:Value}{m:Mode}(h:w.cell? a=some x)(hf:w.frozen? a=false):stored Tryz.prog w a v m= .ok () (w.setCell a v):=by simp[stored,h,hf]
def zW{w:World}{b:Nat}{t:TypeId}{x0 x1 x2 x3:Value}(H:w.heap[b]? = some (.cells #[x0,x1,x2,x3] t (0,0)))(u0 u1 u2 u3:Value)(m:Mode):
  stored Tryz.prog w ⟨b,0,none⟩ u0 m= .ok () (w.setCell ⟨b,0,none⟩ u0)/\
  stored Tryz.prog (w.setCell ⟨b,0,none⟩ u0) ⟨b,1,none⟩ u1 m= .ok () ((w.setCell ⟨b,0,none⟩ u0).setCell ⟨b,1,none⟩ u1)/\
  stored Tryz.prog ((w.setCell ⟨b,0,none⟩ u0).setCell ⟨b,1,none⟩ u1) ⟨b,2,none⟩ u2 m= .ok () (((w.setCell ⟨b,0,none⟩ u0).setCell ⟨b,1,none⟩ u1).setCell ⟨b,2,none⟩ u2)/\
  stored Tryz.prog (((w.setCell ⟨b,0,none⟩ u0).setCell ⟨b,1,none⟩ u1).setCell ⟨b,2,none⟩ u2) ⟨b,3,none⟩ u3 m= .ok () (lA b w u0 u1 u2 u3):=by
 have e0:=heap_setCell_same w b 0 _ _ u0 H;have e1:=heap_setCell_same _ b 1 _ _ u1 e0;have e2:=heap_setCell_same _ b 2 _ _ u2 e1;exact⟨mD (x:=x0) (by simp[World.cell?,H]) (by simp[World.frozen?,H]),mD (x:=x1) (by simp[World.cell?,e0]) (by simp[World.frozen?,e0]),mD (x:=x2) (by simp[World.cell?,e1]) (by simp[World.frozen?,e1]),mD (x:=x3) (by simp[World.cell?,e2]) (by simp[World.frozen?,e2])⟩
def CP{b:Nat}{w:World}{u0 u1 u2 u3:Value}{c o:Nat}(h:c≠b):(lA b w u0 u1 u2 u3).cell? ⟨c,o,none⟩=w.cell? ⟨c,o,none⟩:=by
 unfold lA;rw[cell_of_heap (bB h),cell_of_heap (bB h),cell_of_heap (bB h),cell_of_heap (bB h)]
set_option maxHeartbeats 4000000 in
def CU(k f:Value)(hk:k.oneCell'=true)(hf:f.oneCell'=true)(x:ByteArray)(w:World)(R:Ending->World->Prop)(hc:Calls Tryz.prog 54 #[.pointer (some ⟨w.heap.size+3,0,none⟩),.int .i64 4] (zY w k f x) (wg w.heap.size k f R)):Calls Tryz.prog 19 #[.agg #[k,f],.string x] w R:=by
 have hmf:∀(fn:Fn)(first cap:Array Value)(w:World),(Instr.makeFunc fn first cap).run Tryz.prog w= .ok (.func fn first cap) w:=fun _ _ _ _=>rfl;unfold zY Ki at hc
 go_enter_defers Tryz.func19,Tryz.ntmps19
 go_wp2_with (go_at_call 54;refine hc.mono ?_;rintro e w' ⟨H,h⟩;rcases h with⟨u0,u1,u2,u3,y,o0,o1,o2,o3,rfl,hy,h⟩|⟨rfl,hR⟩)
 ·have s0:∀a m (w:World),(store a u0 m).run Tryz.prog w=stored Tryz.prog w a u0 m:=fun a m w=>run_store _ w a u0 m o0;have s1:∀a m (w:World),(store a u1 m).run Tryz.prog w=stored Tryz.prog w a u1 m:=fun a m w=>run_store _ w a u1 m o1;have s2:∀a m (w:World),(store a u2 m).run Tryz.prog w=stored Tryz.prog w a u2 m:=fun a m w=>run_store _ w a u2 m o2;have s3:∀a m (w:World),(store a u3 m).run Tryz.prog w=stored Tryz.prog w a u3 m:=fun a m w=>run_store _ w a u3 m o3;obtain⟨p0,p1,p2,p3⟩:=zW H.r1 u0 u1 u2 u3 .plain;simp only[s0,s1,s2,s3,p0,p1,p2,p3,Result.andThen];have P:=H.put u0 u1 u2 u3;have hy1:(lA (w.heap.size+1) w' u0 u1 u2 u3).cell? ⟨w.heap.size+3,0,none⟩=some (.string y):=by rw[CP (by simp)];exact hy
  clear hc H p0 p1 p2 p3 hy;generalize lA (w.heap.size+1) w' u0 u1 u2 u3=w1 at h P hy1 |-;have t0:w1.cell? ⟨w.heap.size,0,none⟩=some k:=by simp[World.cell?,P.r0]
  have t1:w1.cell? ⟨w.heap.size,1,none⟩=some f:=by simp[World.cell?,P.r0]
  have c0:w1.cell? ⟨w.heap.size+1,0,none⟩=some u0:=by simp[World.cell?,P.r1]
  have c1:w1.cell? ⟨w.heap.size+1,1,none⟩=some u1:=by simp[World.cell?,P.r1]
  have c2:w1.cell? ⟨w.heap.size+1,2,none⟩=some u2:=by simp[World.cell?,P.r1]
  have c3:w1.cell? ⟨w.heap.size+1,3,none⟩=some u3:=by simp[World.cell?,P.r1]
  rcases h with⟨hy0,hR⟩|⟨rfl,hcall⟩
  ·go_wp2
   refine leaves_cons (f:=53) (args:=#[.pointer (some ⟨w.heap.size+1,0,none⟩),.pointer (some ⟨w.heap.size+2,0,none⟩)]) (by simp) (by simp[go_sem]) ?_;refine (qA P).mono ?_;rintro e u' w'' ⟨rfl,rfl,rfl⟩;simp only[settle];refine⟨_,?_,hR⟩;obtain⟨q1,q2⟩:=kT P;have a0:(dE (w.heap.size+1) w1).cell? ⟨w.heap.size+1,0,none⟩=some (.int .i64 0):=by simp[World.cell?,q1]
   have a1:(dE (w.heap.size+1) w1).cell? ⟨w.heap.size+1,1,none⟩=some (.int .i64 0):=by simp[World.cell?,q1]
   have a2:(dE (w.heap.size+1) w1).cell? ⟨w.heap.size+1,2,none⟩=some (.slice none 0 0):=by simp[World.cell?,q1]
   have a3:(dE (w.heap.size+1) w1).cell? ⟨w.heap.size+1,3,none⟩=some (.slice none 0 0):=by simp[World.cell?,q1]
   have a4:(dE (w.heap.size+1) w1).cell? ⟨w.heap.size+2,0,none⟩=some (.int .i64 34):=by simp[World.cell?,q2]
   generalize dE (w.heap.size+1) w1=W at *;simp[results,Tryz.results19,go_sem,mQ,a0,a1,a2,a3,a4]
  ·go_wp2_with (go_at_call 20;refine hcall.mono ?_;rintro e w3 ⟨H,h⟩;obtain⟨⟨d0,d1,d2,d3,d4⟩,g0,g1,g2,g3,g4⟩:=H.vcells;rcases h with⟨rfl,hR⟩|⟨rfl|rfl,hR⟩)
   ·clear P;refine leaves_cons (f:=53) (args:=#[.pointer (some ⟨w.heap.size+1,0,none⟩),.pointer (some ⟨w.heap.size+2,0,none⟩)]) (by simp) (by simp[go_sem]) ?_;refine (xV ⟨w.heap.size+1,0,none⟩ ⟨w.heap.size+2,0,none⟩ _).mono ?_;rintro e u' w'' ⟨rfl,rfl,rfl⟩;simp only[settle];refine⟨_,?_,hR⟩;simp[results,Tryz.results19,go_sem,World.cell?_setCell_same,d0,d1,d2,d3,d4]
   ·refine leaves_cons (f:=53) (args:=#[.pointer (some ⟨w.heap.size+1,0,none⟩),.pointer (some ⟨w.heap.size+2,0,none⟩)]) (by simp) (by simp[go_sem]) ?_;refine (qA H).mono ?_;rintro e u' w'' ⟨rfl,rfl,rfl⟩;simp only[settle];refine⟨_,?_,hR⟩;obtain⟨q1,q2⟩:=kT H;have a0:(dE (w.heap.size+1) w3).cell? ⟨w.heap.size+1,0,none⟩=some (.int .i64 0):=by simp[World.cell?,q1]
    have a1:(dE (w.heap.size+1) w3).cell? ⟨w.heap.size+1,1,none⟩=some (.int .i64 0):=by simp[World.cell?,q1]
    have a2:(dE (w.heap.size+1) w3).cell? ⟨w.heap.size+1,2,none⟩=some (.slice none 0 0):=by simp[World.cell?,q1]
    have a3:(dE (w.heap.size+1) w3).cell? ⟨w.heap.size+1,3,none⟩=some (.slice none 0 0):=by simp[World.cell?,q1]
    have a4:(dE (w.heap.size+1) w3).cell? ⟨w.heap.size+2,0,none⟩=some (.int .i64 34):=by simp[World.cell?,q2]
    generalize dE (w.heap.size+1) w3=W at *;simp[results,Tryz.results19,go_sem,mQ,a0,a1,a2,a3,a4]
   ·refine leaves_cons (f:=53) (args:=#[.pointer (some ⟨w.heap.size+1,0,none⟩),.pointer (some ⟨w.heap.size+2,0,none⟩)]) (by simp) (by simp[go_sem]) ?_;refine (qA H).mono ?_;rintro e u' w'' ⟨rfl,rfl,rfl⟩;simp only[settle];refine⟨_,?_,hR⟩;obtain⟨q1,q2⟩:=kT H;have a0:(dE (w.heap.size+1) w3).cell? ⟨w.heap.size+1,0,none⟩=some (.int .i64 0):=by simp[World.cell?,q1]
    have a1:(dE (w.heap.size+1) w3).cell? ⟨w.heap.size+1,1,none⟩=some (.int .i64 0):=by simp[World.cell?,q1]
    have a2:(dE (w.heap.size+1) w3).cell? ⟨w.heap.size+1,2,none⟩=some (.slice none 0 0):=by simp[World.cell?,q1]
    have a3:(dE (w.heap.size+1) w3).cell? ⟨w.heap.size+1,3,none⟩=some (.slice none 0 0):=by simp[World.cell?,q1]
    have a4:(dE (w.heap.size+1) w3).cell? ⟨w.heap.size+2,0,none⟩=some (.int .i64 34):=by simp[World.cell?,q2]
    generalize dE (w.heap.size+1) w3=W at *;simp[results,Tryz.results19,go_sem,mQ,a0,a1,a2,a3,a4]
 ·refine leaves_cons (f:=53) (args:=#[.pointer (some ⟨w.heap.size+1,0,none⟩),.pointer (some ⟨w.heap.size+2,0,none⟩)]) (by simp) (by simp[go_sem]) ?_;refine (qA H).mono ?_;rintro e u' w'' ⟨rfl,rfl,rfl⟩;simp only[settle];refine⟨_,?_,hR⟩;obtain⟨q1,q2⟩:=kT H;have a0:(dE (w.heap.size+1) w').cell? ⟨w.heap.size+1,0,none⟩=some (.int .i64 0):=by simp[World.cell?,q1]
  have a1:(dE (w.heap.size+1) w').cell? ⟨w.heap.size+1,1,none⟩=some (.int .i64 0):=by simp[World.cell?,q1]
  have a2:(dE (w.heap.size+1) w').cell? ⟨w.heap.size+1,2,none⟩=some (.slice none 0 0):=by simp[World.cell?,q1]
  have a3:(dE (w.heap.size+1) w').cell? ⟨w.heap.size+1,3,none⟩=some (.slice none 0 0):=by simp[World.cell?,q1]
  have a4:(dE (w.heap.size+1) w').cell? ⟨w.heap.size+2,0,none⟩=some (.int .i64 34):=by simp[World.cell?,q2]
  generalize dE (w.heap.size+1) w'=W at *;simp[results,Tryz.results19,go_sem,mQ,a0,a1,a2,a3,a4]
def FT{S S1:aP}{β β1:List cu}{w w1:World}{h h1:Hp}(hg:qp S β h w)(L:Go.Av.Left (cB β h) S β w S1 β1 w1 h1):qp S1 β1 h1 w1:=by
 have hlt:=hg.1.lt;refine⟨hg.1.mono fun b hb=>(L.keep b (by omega) (hg.2.1 b hb)).1,fun b hb ho=>?_,hg.2.2.mono L.le⟩;rcases L.owned b ho with h|h
 ·exact hg.2.1 b hb h
 ·omega
def F8{S:aP}{w w2:World}(hw:Wf S w)(hg:Gro w w2)(hold:∀b,b<w.heap.size->w2.heap[b]? = w.heap[b]?):Go.Av.Left (cB [] []) S [] w S [] w2 []:=
 ⟨aP.le_refl S,gB.refl _,fun b o v hv=>by rw[cell_of_heap (hold b (hw.lt hv))];exact hw b o v hv,hg,fun b hb _=>⟨hold b hb,fun _=>rfl⟩,cP.nil,fun b ho=>by obtain⟨l,_,_,h1,_⟩:=ho;simp at h1⟩
def RdRows.keep{n:Nat}{w w':World}{k f x0 x1 x2 x3:Value}(H:RdRows n w k f x0 x1 x2 x3)(h:∀j,j<3->w'.heap[n+j]? = w.heap[n+j]?):RdRows n w' k f x0 x1 x2 x3:=
 ⟨(h 0 (by omega)).trans H.r0,(h 1 (by omega)).trans H.r1,(h 2 (by omega)).trans H.r2⟩
def Gx(w:World)(k f:Value)(x:ByteArray):(zY w k f x).heap.size=w.heap.size+4:=by simp[zY,Ki]
def Iq(w:World)(k f:Value)(x:ByteArray)(b:Nat)(hb:b<w.heap.size):(zY w k f x).heap[b]? = w.heap[b]?:=by
 unfold zY Ki;rw[Go.Av.alloc_old _ _ (by simp;omega),Go.Av.alloc_old _ _ (by simp;omega),Go.Av.alloc_old _ _ (by simp;omega),Go.Av.alloc_old _ _ hb]
def Br(w:World)(k f:Value)(x:ByteArray):Gro w (zY w k f x):=(((Gro.alloc w _ _).trans (Gro.alloc _ _ _)).trans (Gro.alloc _ _ _)).trans (Gro.alloc _ _ _)
def Gw(w:World)(k f:Value)(x:ByteArray):RdRows w.heap.size (zY w k f x) k f (.int .i64 0) (.int .i64 0) (.slice none 0 0) (.slice none 0 0):=by
 unfold zY Ki;refine⟨?_,?_,?_⟩
 ·rw[Go.Av.alloc_old _ _ (by simp;omega),Go.Av.alloc_old _ _ (by simp;omega),Go.Av.alloc_old _ _ (by simp)];exact heap_alloc_new w _
 ·rw[Go.Av.alloc_old _ _ (by simp),Go.Av.alloc_old _ _ (by simp)]
  have:=heap_alloc_new (w.alloc (Obj.cells #[k,f] 35)) (Obj.cells #[Value.int IntKind.i64 0,Value.int IntKind.i64 0,Value.slice none 0 0,Value.slice none 0 0] 45)
  rwa [World.size_alloc]at this
 ·rw[Go.Av.alloc_old _ _ (by simp)]
  have:=heap_alloc_new ((w.alloc (Obj.cells #[k,f] 35)).alloc (Obj.cells #[Value.int IntKind.i64 0,Value.int IntKind.i64 0,Value.slice none 0 0,Value.slice none 0 0] 45)) (Obj.cells #[Value.int IntKind.i64 0] 39)
  rwa [World.size_alloc,World.size_alloc]at this
def Ir(w:World)(k f:Value)(x:ByteArray):(zY w k f x).heap[w.heap.size+3]? = some (.cells #[.string x] 85 (0,0)):=by
 unfold zY
 have:=heap_alloc_new (Ki w k f) (Obj.cells #[.string x] 85)
 have hs:(Ki w k f).heap.size=w.heap.size+3:=by simp[Ki]
 rwa [hs]at this
def oh(b:Nat)(w:World)(u0 u1 u2 u3:Value):Gro w (lA b w u0 u1 u2 u3):=(((Gro.setCell _ _ _).trans (Gro.setCell _ _ _)).trans (Gro.setCell _ _ _)).trans (Gro.setCell _ _ _)
def Cd(b:Nat)(w:World):Gro w (dE b w):=((Gro.alloc w _ _).trans (oh _ _ _ _ _ _)).trans (Gro.setCell _ _ _)
def o7{b c:Nat}{w:World}{u0 u1 u2 u3:Value}(h:c≠b):(lA b w u0 u1 u2 u3).heap[c]? = w.heap[c]?:=by
 unfold lA;rw[bB h,bB h,bB h,bB h]
def Ce{b c:Nat}{w:World}(h:c<b)(hs:b<=w.heap.size):(dE b w).heap[c]? = w.heap[c]?:=by
 unfold dE;rw[bB (by simp;omega),o7 (by omega)];exact Go.Av.alloc_old _ _ (by omega)
def mr{S:aP}{w w':World}(hw:Wf S w)(hg:Gro w w')(hs:w.heap.size+1<=w'.heap.size)(hold:∀b,b<w.heap.size->w'.heap[b]? = w.heap[b]?):eo none S [] [] w (.ok rf []) (.returned mQ) (dE (w.heap.size+1) w'):=by
 refine⟨S,[],mQ,rfl,?_,F8 hw (hg.trans (Cd _ _)) (fun b hb=>by rw[Ce (by omega) hs];exact hold b hb),fun sz hsz=>by cases hsz⟩;simp only[rf,mQ,VR,bQ];refine⟨[.agg #[.int .i64 0,.int .i64 0,.slice none 0 0,.slice none 0 0],.int .i64 34],rfl,_,_,rfl,⟨[.int .i64 0,.int .i64 0,.slice none 0 0,.slice none 0 0],rfl,_,_,rfl,rfl,_,_,rfl,rfl,_,_,rfl,?_,_,_,rfl,?_,rfl⟩,_,_,rfl,rfl,rfl⟩
 ·exact⟨none,0,rfl,P5 _,fun _=>rfl,fun q hq=>by cases hq⟩
 ·exact⟨none,0,rfl,P5 _,fun _=>rfl,fun q hq=>by cases hq⟩
def mM{v:AV}{h:Hp}(hne:gM 81 (.pan v h)≠.fail):v= .iface 81 (.agg [])/\gM 81 (.pan v h)= .ok rf []:=by
 unfold gM at hne |-;split at hne
 ·rename_i heq;cases heq
 ·rename_i t h' heq;cases heq;cases hb:Nat.beq t 81 with
  |false=>rw[hb]at hne;exact absurd rfl hne
  |true=>rw[Qc hb];exact⟨rfl,rfl⟩
 ·exact absurd rfl hne
 ·exact absurd rfl hne
def Bp{S:aP}{β:List cu}{v:Value}(h:VR S β (.iface 81 (.agg [])) v):v= .iface 81 (.agg #[]):=by
 simp only[VR,bQ]at h;obtain⟨x,rfl,vs,rfl,rfl⟩:=h;rfl
def A2{n:Nat}{s:List UInt8}{b:Nat}(h:cB [(n,1)] [[AV.str s]] b):b=n:=by
 obtain⟨l,cs,m,h1,h2,h3⟩:=h;cases l with
 |zero=>simp at h3;exact h3.1.symm
 |succ l=>simp at h1
def xO{m:Nat}{v:AV}(hm:m≠1)(h:cz m v=true):∃cs,v= .agg cs:=by
 simp only[cz,PO]at h;have h1:=h.1;cases v<;>simp[dk]at h1<;>first|exact⟨_,rfl⟩|(exfalso;omega)
def FV(call:FuncId->List AV->M AV)(hC:df Tryz.prog own call){S S1:aP}{β1:List cu}{w w1:World}{h1:Hp}{k f u0 u1 u2 u3:Value}{t v:AV}(hw:Wf S w)(hg1:qp S1 β1 h1 w1)(L1:Go.Av.Left (cB [] []) S [] w S1 β1 w1 h1)(hsz:w.heap.size+4<=w1.heap.size)(hB:∀b,w.heap.size<=b->b<w.heap.size+3->¬cB β1 h1 b/\∀o,S1 b o=none)(hR:RdRows w.heap.size w1 k f u0 u1 u2 u3)(ht:VR S1 β1 t (.agg #[k,f]))(hv:VR S1 β1 v (.agg #[u0,u1,u2,u3]))(hok:cz 4 v=true)(hr:gM 81 ((af (call 20 [t,v]) fun r=>aA r (ay (.tup [.agg (aa v),.int .i64 0])) (eI (.iface 81 (.agg [])))) h1)≠.fail):
  Calls Tryz.prog 20 #[.agg #[k,f],.agg #[u0,u1,u2,u3]] w1 (we w.heap.size k f u0 u1 u2 u3 (eo none S [] [] w (gM 81 ((af (call 20 [t,v]) fun r=>aA r (ay (.tup [.agg (aa v),.int .i64 0])) (eI (.iface 81 (.agg [])))) h1)))):=by
 have hne:call 20 [t,v] h1≠.fail:=fun e=>hr (by unfold af;rw[e];rfl);have hc:=(hC 20 [t,v] h1 S1 β1 w1 [.agg #[k,f],.agg #[u0,u1,u2,u3]] hne hg1 L1.wf L1.heap (by simp only[bQ];exact⟨_,_,rfl,ht,_,_,rfl,hv,rfl⟩)).1;refine hc.mono fun en w2 hp=>?_;have rows:∀S2 β2 h2,Go.Av.Left (cB β1 h1) S1 β1 w1 S2 β2 w2 h2->RdRows w.heap.size w2 k f u0 u1 u2 u3:=fun S2 β2 h2 L=>hR.keep fun j hj=>(L.keep _ (by omega) (hB _ (by omega) (by omega)).1).1;have old:∀S2 β2 h2,Go.Av.Left (cB β1 h1) S1 β1 w1 S2 β2 w2 h2->(Gro w w2/\w.heap.size+1<=w2.heap.size/\∀b,b<w.heap.size->w2.heap[b]? = w.heap[b]?):=fun S2 β2 h2 L=>by
  have LL:=L1.trans L
  have:=L.size
  exact⟨LL.gro,by omega,fun b hb=>(LL.keep b hb (fun ho=>by obtain⟨l,_,_,q1,_⟩:=ho;simp at q1)).1⟩
 unfold af at hr |-;generalize call 20 [t,v] h1=r at hr hne hp |-;cases r with
 |fail=>exact absurd rfl hne
 |pan pv h2=>
  obtain⟨S2,β2,x,rfl,hx,L⟩:=hp;obtain⟨rfl,hcr⟩:=mM hr
  have:=Bp hx
  subst this;obtain⟨g1,g2,g3⟩:=old _ _ _ L;refine⟨rows _ _ _ L,.inr ⟨.inr rfl,?_⟩⟩;show eo none S [] [] w (gM 81 (.pan (.iface 81 (.agg [])) h2)) _ _;rw[hcr];exact mr hw g1 g2 g3
 | ok rv h2=>
  obtain⟨S2,β2,x,rfl,hx,L,-⟩:=hp;obtain⟨g1,g2,g3⟩:=old _ _ _ L;have hrv:∃b,rv= .bool b:=by
   cases rv
   case bool b=>exact⟨b,rfl⟩
   all_goals exact absurd rfl hr
  obtain⟨b,rfl⟩:=hrv;simp only[VR]at hx;subst hx;refine⟨rows _ _ _ L,?_⟩;cases b with
  |false=>exact .inr ⟨.inl rfl,mr hw g1 g2 g3⟩
  | true=>
   refine .inl ⟨rfl,?_⟩;have LL:=(L1.trans L).store (w2:=(lA (w.heap.size+1) w2 u0 u1 u2 u3).setCell ⟨w.heap.size+2,0,none⟩ (.int .i64 0)) ((oh _ _ _ _ _ _).trans (Gro.setCell _ _ _)) (fun b=>w.heap.size<=b/\b<w.heap.size+3) (fun b hb=>by
    have hs:=L1.size;refine⟨hb.1,fun ho=>?_,fun o=>?_⟩
    ·rcases L.owned b ho with ho|ho
     ·exact (hB b hb.1 hb.2).1 ho
     ·omega
    ·rw[(L.keep b (by omega) (hB b hb.1 hb.2).1).2 o];exact (hB b hb.1 hb.2).2 o) (fun b hb=>by
    rw[bB (by intro e;simp at e;omega),o7 (by omega)])
   refine⟨S2,β2,_,rfl,?_,LL,fun sz hsz=>by cases hsz⟩;obtain⟨_,hvs,_⟩:=iB hok (hv.mono L.le L.ext);simp only[VR,bQ];exact⟨[.agg #[u0,u1,u2,u3],.int .i64 0],rfl,_,_,rfl,⟨[u0,u1,u2,u3],rfl,hvs⟩,_,_,rfl,rfl,rfl⟩
def ut(call:FuncId->List AV->M AV)(t v:AV):M AV:=af (B5 4 v) fun _=>af pM fun s=>af (ah (zd s)) fun b=>aA b (af (call 20 [t,v]) fun r=>aA r (ay (.tup [.agg (aa v),.int .i64 0])) (eI (.iface 81 (.agg [])))) (eI (.iface 81 (.agg [])))
theorem xW(call:FuncId->List AV->M AV)(t:AV):uj 81 54 20 call t=af (call 54 [.hp 0 0,.int .i64 4]) (ut call t):=rfl
def GW(call:FuncId->List AV->M AV)(t v:AV)(h1:Hp)(hr:gM 81 (ut call t v h1)≠.fail):cz 4 v=true/\∃s',h1[0]? = some [AV.str s']/\ut call t v h1=aA (.bool s'.isEmpty) (af (call 20 [t,v]) fun r=>aA r (ay (.tup [.agg (aa v),.int .i64 0])) (eI (.iface 81 (.agg [])))) (eI (.iface 81 (.agg []))) h1:=by
 have e1:∀g:AV->M AV,af (B5 4 v) g h1=bif cz 4 v then g v h1 else .fail:=by intro g;unfold af B5;cases cz 4 v<;>rfl
 unfold ut at hr |-;rw[e1]at hr |-;cases hk:cz 4 v with
 |false=>rw[hk]at hr;exact absurd rfl hr
 | true=>
  rw[hk]at hr;simp only[PV]at hr |-;by_cases hex:∃s',h1[0]? = some [AV.str s']
  ·obtain⟨s',hrow⟩:=hex;have e2:∀g:AV->M AV,af pM g h1=g (.str s') h1:=by intro g;unfold af pM;rw[hrow]
   exact⟨trivial,s',hrow,by rw[e2];rfl⟩
  ·have e2:∀g:AV->M AV,af pM g h1= .fail:=by
    intro g;have:pM h1= .fail:=by
     unfold pM;split
     ·exact absurd ⟨_,by assumption⟩ hex
     ·rfl
    unfold af;rw[this]
   rw[e2]at hr;exact absurd rfl hr
def M3(call:FuncId->List AV->M AV)(hC:df Tryz.prog own call)(args:List AV)(h:Hp)(S:aP)(β:List cu)(w:World)(vs:List Value)(hr:sn 81 54 20 call args h≠.fail)(hg:qp S β h w)(hw:Wf S w)(hh:cP S β w h)(hv:bQ S β args vs):
  Calls Tryz.prog 19 vs.toArray w (eo none S β h w (sn 81 54 20 call args h)):=by
 have hr':oi 81 54 20 call (eM aB args) []≠.fail:=by
  intro hf;unfold sn iW at hr;rw[hf]at hr;exact hr rfl
 have hv':=wC hv;have hg':qp S [] [] w:=⟨hg.1,fun b _ hb=>by obtain⟨l,_,_,h1,_⟩:=hb;simp at h1,hg.2.2⟩
 suffices key:Calls Tryz.prog 19 vs.toArray w (eo none S [] [] w (oi 81 54 20 call (eM aB args) []))from key.mono fun en w' hp=>xt hw hh hp
 generalize eM aB args=ar at hr' hv' |-;clear hr hv hh hg;unfold oi at hr' |-;split at hr'
 case h_2=>exact absurd rfl hr'
 rename_i t s _;cases ho:cz 2 t with
 |false=>rw[ho]at hr';exact absurd rfl hr'
 | true=>
  rw[ho]at hr';simp only[PV]at hr' |-;simp only[bQ]at hv';obtain⟨vt,r,rfl,ht,hv'⟩:=hv';obtain⟨xv,r',rfl,hxv,rfl⟩:=hv';simp only[VR]at hxv;obtain⟨x,rfl,hx⟩:=hxv;obtain⟨g1,g2,g3⟩:=iB ho ht;obtain⟨tc,rfl⟩:=xO (by decide) ho;have ht0:=ht;simp only[VR]at ht;obtain⟨us,rfl,hus⟩:=ht;simp only[Value.cells]at g1 g3
  match us,g1 with
  | [k,f],_=>
   clear hus g2;have hk:=g3 k (by simp);have hf:=g3 f (by simp);refine CU k f hk hf x w _ ?_;have hs0:=Gx w k f x;have hold:=Iq w k f x;have hX:cP S [(w.heap.size+3,1)] (zY w k f x) [[AV.str s]]:=PL (β:=[]) (h:=[]) cP.nil hw hold (by omega) (Ir w k f x) (by simp only[bQ,VR];exact⟨_,_,rfl,⟨x,rfl,hx⟩,rfl⟩) (fun t' ht=>by obtain⟨a,ha,hb⟩:=ht;rw[Qt.1 ha]at hb;cases hb);have hG:qp S [(w.heap.size+3,1)] [[AV.str s]] (zY w k f x):=⟨hg'.1.mono fun b hb=>hold b (QD hb hg'.1.lt),fun b hb ho=>by have:=A2 ho;have:=hg'.1.lt;omega,hg'.2.2⟩;have hne:call 54 [.hp 0 0,.int .i64 4] [[AV.str s]]≠.fail:=fun e=>hr' (by rw[xW];unfold af;rw[e];rfl);have hc:=(hC 54 [.hp 0 0,.int .i64 4] [[AV.str s]] S [(w.heap.size+3,1)] (zY w k f x) [.pointer (some ⟨w.heap.size+3,0,none⟩),.int .i64 4] hne hG (hw.grow hold) hX (by simp only[bQ,VR];exact⟨_,_,rfl,⟨(w.heap.size+3,1),rfl,by simp,rfl⟩,_,_,rfl,rfl,rfl⟩)).1;refine hc.mono fun en w1 hp=>?_;have rows:∀S1 β1 h1,Go.Av.Left (cB [(w.heap.size+3,1)] [[AV.str s]]) S [(w.heap.size+3,1)] (zY w k f x) S1 β1 w1 h1->RdRows w.heap.size w1 k f (.int .i64 0) (.int .i64 0) (.slice none 0 0) (.slice none 0 0):=fun S1 β1 h1 L=>(Gw w k f x).keep fun j hj=>(L.keep _ (by omega) (fun ho=>by have:=A2 ho;omega)).1;rw[xW]at hr' |-;unfold af at hr' |-;generalize call 54 [.hp 0 0,.int .i64 4] [[AV.str s]]=r at hr' hne hp |-;cases r with
   |fail=>exact absurd rfl hne
   |pan pv h1=>
    obtain⟨S1,β1,z,rfl,hz,L⟩:=hp;obtain⟨rfl,hcr⟩:=mM hr'
    have:=Bp hz
    subst this;have LL:=tW (β:=[]) (h:=[]) hw cP.nil (Br w k f x) hold (by simp) L;refine⟨rows _ _ _ L,.inr ⟨rfl,?_⟩⟩;show eo none S [] [] w (gM 81 (.pan (.iface 81 (.agg [])) h1)) _ _;rw[hcr]
    have:=L.size
    exact mr hw LL.gro (by omega) fun b hb=>(LL.keep b hb (fun ho=>by obtain⟨l,_,_,q1,_⟩:=ho;simp at q1)).1
   | ok v h1=>
    obtain⟨S1,β1,z,rfl,hz,L,-⟩:=hp;have hR1:=rows _ _ _ L;have hs1:=L.size;have hown:∀b,w.heap.size<=b->b<w.heap.size+3->¬cB β1 h1 b/\∀o,S1 b o=none:=fun b hb1 hb2=>by
     refine⟨fun ho=>?_,fun o=>?_⟩
     ·rcases L.owned b ho with ho|ho
      ·have:=A2 ho;omega
      ·omega
     ·rw[(L.keep b (by omega) (fun ho=>by have:=A2 ho;omega)).2 o];exact hw.none hb1 o
    have LL:=tW (β:=[]) (h:=[]) hw cP.nil (Br w k f x) hold (by simp) L;change gM 81 (ut call (.agg tc) v h1)≠.fail at hr';show wg w.heap.size k f (eo none S [] [] w (gM 81 (ut call (.agg tc) v h1))) _ _;obtain⟨hok,s',hrow,e3⟩:=GW call (.agg tc) v h1 hr';rw[e3]at hr' |-;refine⟨hR1,.inl ?_⟩;obtain⟨hlen,ω,hHr⟩:=L.heap;have hb0:β1[0]? = some (w.heap.size+3,1):=L.ext 0 _ rfl;obtain⟨y',q1,⟨ty,q2⟩,_,q4,_⟩:=hHr.cells hrow (by simp) hb0 (by decide);simp only[bQ,VR]at q4;obtain⟨_,_,q5,⟨y,rfl,hy⟩,rfl⟩:=q4;have hyc:w1.cell? ⟨w.heap.size+3,0,none⟩=some (.string y):=by
     have h0:y'[0]? = some (.string y):=by
      have:=PR (fun l=>l[0]?) q5
      simpa using this
     simp[World.cell?,q2,h0]
    obtain⟨p1,p2,p3⟩:=iB hok hz;have hz0:=hz;obtain⟨vc,rfl⟩:=xO (by decide) hok;simp only[VR]at hz;obtain⟨us,rfl,hus⟩:=hz;simp only[Value.cells]at p1 p3
    match us,p1 with
    | [u0,u1,u2,u3],_=>
     refine⟨u0,u1,u2,u3,y,p3 u0 (by simp),p3 u1 (by simp),p3 u2 (by simp),p3 u3 (by simp),rfl,hyc,?_⟩;have L2:=LL.store (w2:=lA (w.heap.size+1) w1 u0 u1 u2 u3) (oh _ _ _ _ _ _) (fun b=>w.heap.size<=b/\b<w.heap.size+3) (fun b hb=>⟨hb.1,hown b hb.1 hb.2⟩) (fun b hb=>o7 (by omega));have hs2:w.heap.size+4<=(lA (w.heap.size+1) w1 u0 u1 u2 u3).heap.size:=by have:=(oh (w.heap.size+1) w1 u0 u1 u2 u3).size;omega
     cases hse:s'.isEmpty with
     |false=>
      refine .inl ⟨?_,?_⟩
      ·rw[ByteArray.toList_eq,hy,hse]
      ·exact mr hw L2.gro (by omega) fun b hb=>(L2.keep b hb (fun ho=>by obtain⟨l,_,_,q1,_⟩:=ho;simp at q1)).1
     | true=>
      rw[hse]at hr';refine .inr ⟨?_,?_⟩
      ·have:s'=[]:=SP.1 hse;subst this;obtain⟨⟨l⟩⟩:=y;simp only at hy;rw[hy]
      ·exact FV call hC hw (FT hg' L2) L2 hs2 hown (hR1.put u0 u1 u2 u3) (ht0.mono L2.le (gB.nil _)) hz0 hok hr'
noncomputable def Fq(n:Nat)(a:Ann):Cx:={ T:=T,call:=fun _ _=>f7,own:=own,iso:=fun _=>false,nw:=fun _=>false,nt:=n,ann:=a }
def tt(n:Nat)(a:Ann):df Tryz.prog (Fq n a).own (Fq n a).call:=fun f args h S β w vs hr=>absurd rfl hr
def AQ(n:Nat)(a:Ann):IsoCall (Fq n a):=⟨fun f args h=>Bool.noConfusion h,fun f args h=>Bool.noConfusion h⟩
def MD(e:AV)(es:List AV):dD (Fq Tryz.f249.ntmps uI) (dS 0) Tryz.f249 none [.sl (e:: es)]=af (appH T 30 true (.sl []) (.sl (e:: es))) fun v=>af (ah (some v)) ay:=by kernel_rfl
def ME:dD (Fq Tryz.f249.ntmps uI) (dS 0) Tryz.f249 none [.hn]=af (ah (some (.sl []))) ay:=by kernel_rfl
def MF(l off:Nat):dD (Fq Tryz.f249.ntmps uI) (dS 0) Tryz.f249 none [.hs l off 0 1 false]=af (appH T 30 true (.sl []) (.hs l off 0 1 false)) fun v=>af (ah (some v)) ay:=by kernel_rfl
def Mz(e:AV)(es:List AV):dD (Fq Tryz.f219.ntmps uH) (dS 0) Tryz.f219 none [.sl (e:: es)]=af (ah (cf T 22 (.sl []) (.sl (e:: es)))) fun v=>af (ah (some v)) ay:=by kernel_rfl
def MA:dD (Fq Tryz.f219.ntmps uH) (dS 0) Tryz.f219 none [.hn]=af (ah (some (.sl []))) ay:=by kernel_rfl
def MB(l off:Nat):dD (Fq Tryz.f219.ntmps uH) (dS 0) Tryz.f219 none [.hs l off 0 1 false]=af (ah (cf T 22 (.sl []) (.hs l off 0 1 false))) fun v=>af (ah (some v)) ay:=by kernel_rfl
def MC(l off:Nat):cf T 22 (.sl []) (.hs l off 0 1 false)=some (.sl []):=by rfl
def Lv(call:FuncId->List AV->M AV)(args:List AV)(h:Hp)(S:aP)(β:List cu)(w:World)(vs:List Value)(hr:gP T 30 call args h≠.fail)(hg:qp S β h w)(hw:Wf S w)(hh:cP S β w h)(hv:bQ S β args vs):
  Calls Tryz.prog 249 vs.toArray w (eo none S β h w (gP T 30 call args h)):=by
 have key:∀es,args=[.sl es]->Calls Tryz.prog 249 vs.toArray w (eo none S β h w (gP T 30 call args h)):=by
  rintro es rfl;exact (pr (cx:=Fq Tryz.f249.ntmps uI) (E:=fun es h=>gP T 30 call [.sl es] h) tok (tt _ _) (AQ _ _) Tryz.func249 rfl (fun h=>by rfl) (fun e es h=>by rw[MD];exact congrFun (Ff _) h) (fun h=>by rw[ME];rfl) (fun l off h=>by rw[MF];rfl) hr hg hw hh hv).1
 unfold gP at hr;split at hr
 ·exact key _ rfl
 ·exact absurd rfl hr
def Lu(call:FuncId->List AV->M AV)(args:List AV)(h:Hp)(S:aP)(β:List cu)(w:World)(vs:List Value)(hr:kR T 22 call args h≠.fail)(hg:qp S β h w)(hw:Wf S w)(hh:cP S β w h)(hv:bQ S β args vs):
  Calls Tryz.prog 219 vs.toArray w (eo none S β h w (kR T 22 call args h)):=by
 have key:∀es,args=[.sl es]->Calls Tryz.prog 219 vs.toArray w (eo none S β h w (kR T 22 call args h)):=by
  rintro es rfl;exact (pr (cx:=Fq Tryz.f219.ntmps uH) (E:=fun es h=>kR T 22 call [.sl es] h) tok (tt _ _) (AQ _ _) Tryz.func219 rfl (fun h=>by rfl) (fun e es h=>by rw[Mz];exact congrFun (Ff _) h) (fun h=>by rw[MA];rfl) (fun l off h=>by rw[MB,MC];rfl) hr hg hw hh hv).1
 unfold kR at hr;split at hr
 ·exact key _ rfl
 ·exact absurd rfl hr
def Mk:Prop:=∀call,df Tryz.prog own call->∀(args:List AV)(h:Hp)(S:aP)(β:List cu)(w:World)(vs:List Value),yu 39 .i64 (.agg [.int .i64 0,.int .i64 0,.sl [],.sl []]) call args h≠.fail->qp S β h w->Wf S w->cP S β w h->bQ S β args vs->
 Calls Tryz.prog 132 vs.toArray w (eo none S β h w (yu 39 .i64 (.agg [.int .i64 0,.int .i64 0,.sl [],.sl []]) call args h))
def o9(w:World):World:=(w.alloc (Obj.cells #[Value.int IntKind.i64 0,Value.int IntKind.i64 0,Value.slice none 0 0,Value.slice none 0 0] 45)).alloc (Obj.cells #[Value.int IntKind.i64 0] 39)
def Ao(w w':World)(u0 u1 u2 u3 e:Value):World:=((((w'.setCell ⟨w.heap.size,0,none⟩ u0).setCell ⟨w.heap.size,1,none⟩ u1).setCell ⟨w.heap.size,2,none⟩ u2).setCell ⟨w.heap.size,3,none⟩ u3).setCell ⟨w.heap.size+1,0,none⟩ e
def OD(w:World)(R:Ending->World->Prop):Ending->World->Prop:=fun e w'=>
 w'.heap[w.heap.size]? = (o9 w).heap[w.heap.size]? /\w'.heap[w.heap.size+1]? = (o9 w).heap[w.heap.size+1]? /\
 ((∃u0 u1 u2 u3:Value,u0.oneCell'=true/\u1.oneCell'=true/\u2.oneCell'=true/\u3.oneCell'=true/\e= .returned (.agg #[u0,u1,u2,u3])/\R (.returned (.tuple #[.agg #[u0,u1,u2,u3],.int .i64 0])) (Ao w w' u0 u1 u2 u3 (.int .i64 0)))\/
  ∃n,e= .panicked [{ v:=.iface 39 (.int .i64 n),recovered:=false }]/\R (.returned (.tuple #[.agg #[.int .i64 0,.int .i64 0,.slice none 0 0,.slice none 0 0],.int .i64 n])) (Ao w w' (.int .i64 0) (.int .i64 0) (.slice none 0 0) (.slice none 0 0) (.int .i64 n)))
set_option maxHeartbeats 4000000 in
def G4(g:FuncId)(x y:Array Value)(w:World)(R:Ending->World->Prop)(hfn:(Tryz.prog.funcs[g]?).any (fun fn=>fn.body.isSome&&!(fn.name== "runtime.NumGoroutine"))=true)(hc:Calls Tryz.prog g (x++y) (o9 w) (OD w R)):Calls Tryz.prog 132 #[.func (.func g) x y] w R:=by
 have hmf:∀(fn:Fn)(first cap:Array Value)(w:World),(Instr.makeFunc fn first cap).run Tryz.prog w= .ok (.func fn first cap) w:=fun _ _ _ _=>rfl
 go_enter_defers Tryz.func132,Tryz.ntmps132
 go_wp2
 rw[jg hfn,Oper.upon_enter];refine hc.mono fun e w' h=>?_;obtain⟨k0,k1,h⟩:=h;have r0:w'.heap[w.heap.size]? = some (.cells #[Value.int IntKind.i64 0,Value.int IntKind.i64 0,Value.slice none 0 0,Value.slice none 0 0] 45):=by rw[k0];exact (Go.Av.alloc_old _ _ (by simp)).trans (heap_alloc_new w _)
 have r1:w'.heap[w.heap.size+1]? = some (.cells #[Value.int IntKind.i64 0] 39):=by rw[k1];have:=heap_alloc_new (w.alloc (Obj.cells #[Value.int IntKind.i64 0,Value.int IntKind.i64 0,Value.slice none 0 0,Value.slice none 0 0] 45)) (Obj.cells #[Value.int IntKind.i64 0] 39);rwa [World.size_alloc]at this
 have c0:w'.cell? ⟨w.heap.size,0,none⟩=some (.int .i64 0):=by simp[World.cell?,r0]
 have c1:w'.cell? ⟨w.heap.size,1,none⟩=some (.int .i64 0):=by simp[World.cell?,r0]
 have c2:w'.cell? ⟨w.heap.size,2,none⟩=some (.slice none 0 0):=by simp[World.cell?,r0]
 have c3:w'.cell? ⟨w.heap.size,3,none⟩=some (.slice none 0 0):=by simp[World.cell?,r0]
 have d0:w'.cell? ⟨w.heap.size+1,0,none⟩=some (.int .i64 0):=by simp[World.cell?,r1]
 have f0:w'.frozen? ⟨w.heap.size,0,none⟩=false:=by simp[World.frozen?,r0]
 have f1:w'.frozen? ⟨w.heap.size,1,none⟩=false:=by simp[World.frozen?,r0]
 have f2:w'.frozen? ⟨w.heap.size,2,none⟩=false:=by simp[World.frozen?,r0]
 have f3:w'.frozen? ⟨w.heap.size,3,none⟩=false:=by simp[World.frozen?,r0]
 have g0:w'.frozen? ⟨w.heap.size+1,0,none⟩=false:=by simp[World.frozen?,r1]
 clear k0 k1 r0 r1 hc hmf;rcases h with⟨u0,u1,u2,u3,o0,o1,o2,o3,rfl,hR⟩|⟨n,rfl,hR⟩
 ·simp only;rename_i K1 hK1 K hK;apply hK;clear hK;have hK1':=hK1;clear hK1;have s0:∀a m (w:World),(store a u0 m).run Tryz.prog w=stored Tryz.prog w a u0 m:=fun a m w=>run_store _ w a u0 m o0;have s1:∀a m (w:World),(store a u1 m).run Tryz.prog w=stored Tryz.prog w a u1 m:=fun a m w=>run_store _ w a u1 m o1;have s2:∀a m (w:World),(store a u2 m).run Tryz.prog w=stored Tryz.prog w a u2 m:=fun a m w=>run_store _ w a u2 m o2;have s3:∀a m (w:World),(store a u3 m).run Tryz.prog w=stored Tryz.prog w a u3 m:=fun a m w=>run_store _ w a u3 m o3
  go_wp2
  change Leaves _ _ _ _ _ _ _;refine leaves_cons (f:=165) (args:=#[.pointer (some ⟨w.heap.size,0,none⟩),.pointer (some ⟨w.heap.size+1,0,none⟩)]) (by simp) (by simp[go_sem]) ?_;refine (yU ⟨w.heap.size,0,none⟩ ⟨w.heap.size+1,0,none⟩ _).mono ?_;rintro e u' w'' ⟨rfl,rfl,rfl⟩;simp only[Leaves,settle];refine⟨_,?_,hR⟩;simp[results,Tryz.results132,go_sem,Ao,World.cell?_setCell_same,c0,c1,c2,c3,d0]
 ·change Leaves _ _ _ _ _ _ _;refine leaves_cons (f:=165) (args:=#[.pointer (some ⟨w.heap.size,0,none⟩),.pointer (some ⟨w.heap.size+1,0,none⟩)]) (by simp) (by simp[go_sem]) ?_;refine (B4 w.heap.size (w.heap.size+1) _ _ _ _ _ n w' c0 c1 c2 c3 d0 f0 f1 f2 f3 g0 (by omega) (by omega)).mono ?_;rintro e u' w'' ⟨rfl,rfl,rfl⟩;simp only[Leaves,settle];refine⟨_,?_,hR⟩;simp[results,Tryz.results132,go_sem,Ao,World.cell?_setCell_same,c0,c1,c2,c3,d0]
def pb(w:World):(o9 w).heap.size=w.heap.size+2:=by simp[o9]
def G0(w:World)(b:Nat)(hb:b<w.heap.size):(o9 w).heap[b]? = w.heap[b]?:=by
 unfold o9;rw[Go.Av.alloc_old _ _ (by simp;omega),Go.Av.alloc_old _ _ hb]
def yx(w:World):Gro w (o9 w):=(Gro.alloc w _ _).trans (Gro.alloc _ _ _)
def yw(w w':World)(u0 u1 u2 u3 e:Value):Gro w' (Ao w w' u0 u1 u2 u3 e):=
 ((((Gro.setCell _ _ _).trans (Gro.setCell _ _ _)).trans (Gro.setCell _ _ _)).trans (Gro.setCell _ _ _)).trans (Gro.setCell _ _ _)
def uw(w w':World)(u0 u1 u2 u3 e:Value)(b:Nat)(hb:¬(w.heap.size<=b/\b<(o9 w).heap.size)):(Ao w w' u0 u1 u2 u3 e).heap[b]? = w'.heap[b]?:=by
 rw[pb]at hb;unfold Ao;rw[bB (by simp;omega),bB (by simp;omega),bB (by simp;omega),bB (by simp;omega),bB (by simp;omega)]
def B3{call:FuncId->List AV->M AV}{f:AV}{xs:List AV}{h:Hp}(hr:cX call f xs h≠.fail):∃g a c,f= .fn (.func g) a c:=by
 unfold cX at hr;split at hr
 ·exact⟨_,_,_,rfl⟩
 ·exact absurd rfl hr
theorem LK:Mk:=by
 intro call hC args h S β w vs hr hg hw hh hv
 have key:∀f,args=[f]->Calls Tryz.prog 132 vs.toArray w (eo none S β h w (yu 39 .i64 (.agg [.int .i64 0,.int .i64 0,.sl [],.sl []]) call args h)):=by
  rintro f rfl;have ht:yu 39 .i64 (.agg [.int .i64 0,.int .i64 0,.sl [],.sl []]) call [f] h=yv 39 .i64 (.agg [.int .i64 0,.int .i64 0,.sl [],.sl []]) (cX call f [] h):=rfl;rw[ht]at hr |-;clear ht;simp only[bQ]at hv;obtain⟨fv,_,rfl,hv,rfl⟩:=hv;have hne:cX call f [] h≠.fail:=fun e=>by rw[e]at hr;exact hr rfl
  obtain⟨g,a,c,rfl⟩:=B3 hne
  ·have hcv:cX call (.fn (.func g) a c) [] h=call g (a++[]++c) h:=rfl;rw[hcv]at hr hne |-;simp only[VR]at hv;obtain⟨x,y,rfl,hx,hy⟩:=hv;have hold:=G0 w;have hv2:bQ S β (a++[]++c) (x++y):=by simpa using hx.append hy
   obtain⟨hcall,hfn⟩:=hC g (a++[]++c) h S β (o9 w) (x++y) hne ⟨hg.1.mono fun b hb=>hold b (QD hb hg.1.lt),hg.2⟩ (hw.grow hold) (hh.grow hold) hv2;refine G4 g x.toArray y.toArray w _ hfn ?_;have e:(x++y).toArray=x.toArray++y.toArray:=by simp
   rw[<- e];refine hcall.mono fun en w' hp=>?_;have kk:∀S' β' h',Go.Av.Left (cB β h) S β (o9 w) S' β' w' h'->w'.heap[w.heap.size]? = (o9 w).heap[w.heap.size]? /\w'.heap[w.heap.size+1]? = (o9 w).heap[w.heap.size+1]?:=fun S' β' h' L=>
    ⟨(L.keep _ (by rw[pb];omega) fun ho=>by have:=hh.low ho;omega).1,(L.keep _ (by rw[pb];omega) fun ho=>by have:=hh.low ho;omega).1⟩
   generalize call g (a++[]++c) h=r at hr hne hp |-;cases r with
   |fail=>exact absurd rfl hne
   | ok v h'=>
    obtain⟨S',β',u,rfl,hu,L,_⟩:=hp;refine⟨(kk _ _ _ L).1,(kk _ _ _ L).2,.inl ?_⟩;simp only[yv]at hr |-;cases hok:cz 4 v with
    |false=>rw[hok]at hr;exact absurd rfl hr
    | true=>
     obtain⟨g1,g2,g3⟩:=iB hok hu;have hcs:∃cs,v= .agg cs:=by
      simp only[cz,PO]at hok;have h1:=hok.1;cases v<;>simp[dk]at h1;exact⟨_,rfl⟩
     obtain⟨cs,rfl⟩:=hcs;simp only[VR]at hu;obtain⟨us,rfl,hus⟩:=hu;simp only[Value.cells]at g1 g3
     match us,g1 with
     |[u0,u1,u2,u3],_=>
      refine⟨u0,u1,u2,u3,g3 u0 (by simp),g3 u1 (by simp),g3 u2 (by simp),g3 u3 (by simp),rfl,S',β',_,rfl,?_,tX (yx w) hold L (yw ..) (fun b hb=>uw w w' _ _ _ _ _ b hb) hw hh,fun sz hsz=>by cases hsz⟩;simp only[VR,bQ];exact⟨[.agg #[u0,u1,u2,u3],.int .i64 0],rfl,_,_,rfl,⟨[u0,u1,u2,u3],rfl,hus⟩,_,_,rfl,rfl,rfl⟩
   | pan v h'=>
    obtain⟨S',β',u,rfl,hu,L⟩:=hp;refine⟨(kk _ _ _ L).1,(kk _ _ _ L).2,.inr ?_⟩;unfold yv at hr |-;split at hr
    ·rename_i heq;cases heq
    ·rename_i t' k' n h'' heq;cases heq;cases hb:(Nat.beq t' 39&&decide (k'=IntKind.i64))with
     |false=>rw[hb]at hr;exact absurd rfl hr
     |true=>
      simp only[PO,PW]at hb;obtain⟨hb1,rfl⟩:=hb
      have:=Qc hb1
      subst this;simp only[VR]at hu;obtain⟨u',rfl,rfl⟩:=hu;refine⟨n,rfl,S',β',_,rfl,?_,tX (yx w) hold L (yw ..) (fun b hb=>uw w w' _ _ _ _ _ b hb) hw hh,fun sz hsz=>by cases hsz⟩;simp only[VR,bQ];refine⟨[.agg #[.int .i64 0,.int .i64 0,.slice none 0 0,.slice none 0 0],.int .i64 n],rfl,_,_,rfl,⟨[.int .i64 0,.int .i64 0,.slice none 0 0,.slice none 0 0],rfl,_,_,rfl,rfl,_,_,rfl,rfl,_,_,rfl,?_,_,_,rfl,?_,rfl⟩,_,_,rfl,rfl,rfl⟩
      ·exact⟨none,0,rfl,P5 _,fun _=>rfl,fun q hq=>by cases hq⟩
      ·exact⟨none,0,rfl,P5 _,fun _=>rfl,fun q hq=>by cases hq⟩
    ·exact absurd rfl hr
 rcases args with _|⟨f,_|⟨f2,r⟩⟩
 ·exact absurd rfl hr
 ·exact key _ rfl
 ·exact absurd rfl hr
end Go.Proofs.YtihmmkncokjbaaaGreatDoor
namespace Go.Proofs.YtihmmkncokjbaaaGreatDoor
open Go Go.Av Go.RowKit
set_option maxRecDepth 100000
def B7{u:Nat}(h:u<10):Lib.decDigits u=[UInt8.ofNat (48+u)]:=by rw[Lib.decDigits,dif_pos h]
def HM{u:Nat}(h:¬u<10):Lib.decDigits u=Lib.decDigits (u / 10)++[UInt8.ofNat (48+u % 10)]:=by rw[Lib.decDigits,dif_neg h]
def mO(u:Nat):List UInt8:=if u=0 then[]else Lib.decDigits u
def zb{u:Nat}(h:u≠0):mO u=mO (u / 10)++[UInt8.ofNat (48+u % 10)]:=by
 unfold mO;rw[if_neg h];by_cases h10:u<10
 ·have h0:u / 10=0:=Nat.div_eq_of_lt h10;rw[B7 h10,PS h0,Nat.mod_eq_of_lt h10];rfl
 ·have h0:u / 10≠0:=by omega
  rw[HM h10,if_neg h0]
def Fp(w:World)(z:Int)(h0:0<=z)(h1:z<256):(convert 119 9 (.slice (some ⟨w.heap.size,0,none⟩) 1 1)).run Tryz.prog (w.alloc (.cells #[.int .u8 z] 5))= .ok (.string ⟨#[UInt8.ofNat z.toNat]⟩) (w.alloc (.cells #[.int .u8 z] 5)):=by
 have h:=run_convert_bytes_back (P:=Tryz.prog) (w.alloc (.cells #[.int .u8 z] 5)) 119 9 5 ⟨w.heap.size,0,none⟩ 1 [UInt8.ofNat z.toNat] Tryz.underlying119 Tryz.underlying5 Tryz.underlying9 (fun j hj=>by
  simp at hj;subst hj;have e:((UInt8.ofNat z.toNat).toNat:Int)=z:=by simp[RY];omega
  show (w.alloc (.cells #[.int .u8 z] 5)).cell? _=some (.int .u8 ((UInt8.ofNat z.toNat).toNat:Int));rw[e];have hh:=heap_alloc_new w (Obj.cells #[Value.int .u8 z] 5);show (w.alloc (.cells #[.int .u8 z] 5)).cell? ⟨w.heap.size,0,none⟩=_;unfold World.cell?;simp only[hh];rfl)
 simpa using h
def lJ(b:UInt8)(t:ByteArray):((⟨#[b]⟩:ByteArray)++t).data.toList=b:: t.data.toList:=by simp
def qW(b:UInt8)(t:ByteArray):((⟨#[b]⟩:ByteArray)++t).size=t.size+1:=by
 show ((⟨#[b]⟩:ByteArray)++t).data.size=t.data.size+1;rw[<- QE,<- QE,lJ];rfl
def itoa_neg{n:Int}(h:n<0)(h0:-9223372036854775808<=n):cI n=45:: mO n.natAbs:=by
 unfold cI mO;rw[PT h,if_neg (by omega)];simp only[PV];rw[nD 19 n.natAbs (by omega)]
def F0{n:Int}(h:0<n)(h1:n<=9223372036854775807):cI n=mO n.natAbs:=by
 unfold cI mO;rw[PX (by omega),if_neg (by omega)];simp only[P3];rw[nD 19 n.toNat (by omega)];congr 1;omega
set_option maxHeartbeats 8000000 in
def HO(n:Int)(w:World)(h0:-9223372036854775808<=n)(h1:n<=9223372036854775807):Calls Tryz.prog 105 #[.int .i64 n] w fun e w'=>(∃x:ByteArray,e= .returned (.string x)/\x.data.toList=cI n)/\Below w.heap.size w w':=by
 by_cases hn:n=0
 ·subst hn
  go_enter Tryz.func105,Tryz.ntmps105
  go_wp2
  go_ret
  exact⟨⟨_,rfl,by decide⟩,Below.refl _ _⟩
 ·have hnb:(n== 0)=false:=by simpa using hn
  go_enter Tryz.func105,Tryz.ntmps105
  go_wp2
  try rw[hnb]
  go_loopg [3,4,5] 20 (fun g s3 s4 _ wx=>∃(m:Int)(t:ByteArray),s3= .string t/\s4= .int .i64 m/\m.natAbs<10 ^ g/\(-9223372036854775808<=m/\m<=9223372036854775807)/\(n<0->m<=0)/\(0<n->0<=m)/\mO n.natAbs=mO m.natAbs++t.data.toList/\t.size+g<=20/\Below w.heap.size w wx)
  case atStart=>exact⟨n,⟨#[]⟩,rfl,rfl,by omega,⟨h0,h1⟩,by omega,by omega,by simp,by simp[ByteArray.size],Below.refl _ _⟩
  case round=>
   obtain⟨m,t,rfl,rfl,hg,hmr,hm1,hm2,hd,hts,hb⟩:=hrel;have ht20:t.size<=20:=by omega
   by_cases hm0:m=0
   ·subst hm0;have hd':mO n.natAbs=t.data.toList:=hd;by_cases hneg:n<0
    ·go_wp2
     all_goals first
      |(go_ret;exact⟨⟨_,rfl,by rw[lJ,itoa_neg hneg h0,hd']⟩,hb⟩)
      |(exfalso;omega)
    ·go_wp2
     go_ret
     exact⟨⟨_,rfl,by rw[F0 (by omega) h1,hd']⟩,hb⟩
   ·have hmb:(m== 0)=false:=by simpa using hm0
    cases gk with
    |zero=>exfalso;simp at hg;omega
    | succ g=>
     have hst:=zb (u:=m.natAbs) (by omega);rw[RL]at hg;by_cases hneg:m<0
     ·have f1:m.tmod 10= -((-m) % 10):=by rw[show m= -(-m) by omega,Int.neg_tmod,SF (by omega)];omega
      have f2:m.tdiv 10= -((-m) / 10):=by rw[show m= -(-m) by omega,Int.neg_tdiv,SG (by omega)];omega
      obtain⟨r,hr⟩:∃r,r=m.tmod 10:=⟨_,rfl⟩;obtain⟨q,hq⟩:∃q,q=m.tdiv 10:=⟨_,rfl⟩;by_cases hr0:m.tmod 10<0
      ·go_wp2
       rw[Fp wr (48 + -m % 10) (by omega) (by omega)];simp only[Result.andThen];rw[Oper.upon_value]
       go_wp2
       go_roundg g
       case measure=>omega
       case rel=>
        refine⟨-(-m / 10),_,rfl,rfl,by omega,by omega,by omega,by omega,?_,by rw[qW];omega,(hb.alloc hb.size _)⟩;have e1:(-(-m / 10)).natAbs=m.natAbs / 10:=by omega
        have e2:(48 + -m % 10).toNat=48+m.natAbs % 10:=by omega
        rw[hd,hst,e1,lJ,e2];simp
      ·go_wp2
       rw[Fp wr (48 + -(-m % 10)) (by omega) (by omega)];simp only[Result.andThen];rw[Oper.upon_value]
       go_wp2
       go_roundg g
       case measure=>omega
       case rel=>
        refine⟨-(-m / 10),_,rfl,rfl,by omega,by omega,by omega,by omega,?_,by rw[qW];omega,(hb.alloc hb.size _)⟩;have e1:(-(-m / 10)).natAbs=m.natAbs / 10:=by omega
        have e2:(48 + -(-m % 10)).toNat=48+m.natAbs % 10:=by omega
        rw[hd,hst,e1,lJ,e2];simp
     ·have f1:m.tmod 10=m % 10:=SF (by omega);have f2:m.tdiv 10=m / 10:=SG (by omega);have hr0:¬m % 10<0:=by omega
      go_wp2
      rw[Fp wr (48+m % 10) (by omega) (by omega)];simp only[Result.andThen];rw[Oper.upon_value]
      go_wp2
      go_roundg g
      case measure=>omega
      case rel=>
       refine⟨m / 10,_,rfl,rfl,by omega,by omega,by omega,by omega,?_,by rw[qW];omega,(hb.alloc hb.size _)⟩;have e1:(m / 10).natAbs=m.natAbs / 10:=by omega
       have e2:(48+m % 10).toNat=48+m.natAbs % 10:=by omega
       rw[hd,hst,e1,lJ,e2];simp
def Lq(call:FuncId->List AV->M AV)(args:List AV)(h:Hp)(S:aP)(β:List cu)(w:World)(vs:List Value)(hr:lq call args h≠.fail)(_hg:qp S β h w)(hw:Wf S w)(hh:cP S β w h)(hv:bQ S β args vs):
  Calls Tryz.prog 105 vs.toArray w (eo none S β h w (lq call args h)):=by
 unfold lq at hr |-;split at hr
 ·rename_i n;simp only[bQ,VR]at hv;obtain⟨v,r,rfl,rfl,rfl⟩:=hv;cases hc:(decide (-9223372036854775808<=n)&&decide (n<=9223372036854775807))with
  |false=>rw[hc]at hr;exact absurd rfl hr
  |true=>
   simp only[PO,PW]at hc;simp only[PV];refine (HO n w hc.1 hc.2).mono ?_;rintro e w' ⟨⟨x,rfl,hx⟩,hb⟩;exact ey hw hh hb vq (by simp only[VR];exact⟨x,rfl,hx⟩)
 ·exact absurd rfl hr
def N5{α:Type}{f k:Nat}{x:α}{o:Option α}{y:α}(h:(bif Nat.beq f k then some x else o)=some y):(f=k/\x=y)\/o=some y:=by
 cases hb:Nat.beq f k with
 |true=>rw[hb]at h;exact .inl ⟨Qc hb,by simpa using h⟩
 |false=>rw[hb]at h;exact .inr h
def Fc{α:Type}{f k:Nat}{x y:α}{o:Option α}{P:Prop}(h1:f=k->x=y->P)(h2:o=some y->P)(h:(bif Nat.beq f k then some x else o)=some y):P:=(N5 h).elim (fun h=>h1 h.1 h.2) h2
def Oe:GoodPg Tryz.prog pg where
 tok:=tok
 funcs:=FN
 other:=by
  intro f E hE call hC args h S β w vs hr hg hw hh hv;have h0:other f=some E:=hE;unfold other at h0;revert h0
  repeat' refine Fc ?_ ?_
  all_goals first
   |(intro h0;cases h0;done)
   |(rintro rfl rfl;exact absurd rfl hr)
   |(rintro rfl rfl;exact⟨M3 call hC args h S β w vs hr hg hw hh hv,by kernel_rfl⟩)
   |(rintro rfl rfl;exact⟨M4 call args h S β w vs hr hg hw hh hv,by kernel_rfl⟩)
   |(rintro rfl rfl;exact⟨M5 call args h S β w vs hr hg hw hh hv,by kernel_rfl⟩)
   |(rintro rfl rfl;exact⟨M6 call args h S β w vs hr hg hw hh hv,by kernel_rfl⟩)
   |(rintro rfl rfl;exact⟨LK call hC args h S β w vs hr hg hw hh hv,by kernel_rfl⟩)
   |(rintro rfl rfl;exact⟨Lr call args h S β w vs hr hg hw hh hv,by kernel_rfl⟩)
   |(rintro rfl rfl;exact⟨Ls call args h S β w vs hr hg hw hh hv,by kernel_rfl⟩)
   |(rintro rfl rfl;exact⟨Lt call args h S β w vs hr hg hw hh hv,by kernel_rfl⟩)
   |(rintro rfl rfl;exact⟨Lu call args h S β w vs hr hg hw hh hv,by kernel_rfl⟩)
   |(rintro rfl rfl;exact⟨Lv call args h S β w vs hr hg hw hh hv,by kernel_rfl⟩)
   |(rintro rfl rfl;exact⟨Lq call args h S β w vs hr hg hw hh hv,by kernel_rfl⟩)
 nw:=by
  intro f hf;have h0:(bif Nat.beq f 249 then true else false)=true:=hf;cases hb:Nat.beq f 249 with
  |true=>
   have:=Qc hb
   subst this;exact⟨_,rfl,fun call args=>B6 _ _ _ _⟩
  |false=>rw[hb]at h0;cases h0
end Go.Proofs.YtihmmkncokjbaaaGreatDoor
namespace Go.Proofs.YtihmmkncokjbaaaGreatDoor
open Go Go.Av Go.ChangeShapes Go.WideShapes Go.ChangeAt Go.RowKit
set_option maxRecDepth 1000000
def Ou:ownKnob Tryz.prog.godebug=none:=by kernel_rfl
def star: "*" ++ "errors.errorString" = "*errors.errorString" :=by decide
def sy(u:TypeId)(h:Tryz.prog.typeName? 3 u=some "*errors.errorString"):u=272:=
 typeName_ptr_named (nm:= "errors.errorString") (by rw[star];kernel_rfl) (by kernel_rfl) (by decide) u (by rw[star];exact h)
def KX{W:World}(hL:laidMetH Tryz.prog Rows.stateStaysRow.laid W)(hS:W.ShapedOpen Tryz.prog):GOKw W:=by
 have h0:laidMet Tryz.prog Rows.stateStaysRow.laid W:=hL;have h1:=h0.tail;have h2:=h1.tail;have h3:=h2.tail;have h4:=h3.tail;have hp:=Lib.tabIs_of_head (k:=.u64) (zs:=Lib.pow10Tab) (g:=0) (t:=244) (e:=206) (n:=20) (by kernel_rfl) (by kernel_rfl) (by kernel_rfl) (by kernel_rfl) (by kernel_rfl) (by kernel_rfl) h2;obtain⟨a0,s0,v0,_⟩:=laid_sentinel (g:=3) (ti:=124) (tp:=272) (te:=274) (ts:=9) h3 (by kernel_rfl) (by kernel_rfl) Tryz.underlying124 sy Tryz.underlying272 Tryz.underlying274 rfl rfl Tryz.underlying9 (by kernel_rfl) (by kernel_rfl);obtain⟨a1,s1,v1,_⟩:=laid_sentinel (g:=2) (ti:=124) (tp:=272) (te:=274) (ts:=9) h4 (by kernel_rfl) (by kernel_rfl) Tryz.underlying124 sy Tryz.underlying272 Tryz.underlying274 rfl rfl Tryz.underlying9 (by kernel_rfl) (by kernel_rfl);have hvar:∀ {name:String} {g:Nat} {cs:Array Value},Tryz.prog.globalNamed name=some g->W.var? Tryz.prog name=some cs->∃t fr,W.heap[g]? = some (.cells cs t fr):=by
  intro name g cs hn hv;unfold World.var? at hv;rw[hn]at hv;simp only[Sa]at hv;split at hv
  ·rename_i c t fr hh;simp only[PN]at hv;subst hv;exact⟨t,fr,hh⟩
  ·cases hv
 have hcell:∀ {g:Nat} {v:Value},(∃t fr,W.heap[g]? = some (.cells #[v] t fr))->W.cell? ⟨g,0,none⟩=some v:=by
  rintro g v ⟨t,fr,hh⟩;simp[World.cell?,hh]
 refine⟨?_,hvar (by kernel_rfl) hp,⟨_,_,hcell (hvar (by kernel_rfl) v1)⟩,⟨_,_,hcell (hvar (by kernel_rfl) v0)⟩⟩;exact cell_of_shapedOpen_int (zero:=#[.int .i64 0]) (t:=3) hS (Ro (by kernel_rfl)) (by kernel_rfl) rfl (by kernel_rfl) (by kernel_rfl) Tryz.underlying3
mutual
def nB:DataW Unit->List Value
 |.lit (.bool b)=>[.bool b]
 |.lit (.int k n)=>[.int k n]
 |.lit (.string s)=>[.string ⟨s.toArray⟩]
 |.agg ps=>Ft ps
 |_=>[]
def Ft:List (DataW Unit)->List Value
 |[]=>[]
 |d:: ds=>nB d++Ft ds
end
abbrev Oz:ByteArray:={ data:=#[105,110,118,97,108,105,100,32,115,121,110,116,97,120] }
abbrev Ox:ByteArray:={ data:=#[118,97,108,117,101,32,111,117,116,32,111,102,32,114,97,110,103,101] }
noncomputable def low:Nat:=(World.holding Tryz.prog default ⟨#[],#[],[]⟩).heap.size
noncomputable def G6:List (Option (Array Value)):=[some (nB Rows.laid_internal_strconv_uint64pow10).toArray,none,some #[.iface 272 (.pointer (some ⟨low,0,none⟩))],some #[.iface 272 (.pointer (some ⟨low+1,0,none⟩))],
 some (nB Rows.laid_math_bits_deBruijn32tab).toArray,some (nB Rows.laid_math_bits_deBruijn64tab).toArray]
def vA:List Obj->List (Option (Array Value))->List Obj
 |.cells _ t fr:: os,some c:: cs=>.cells c t fr:: vA os cs
 |o:: os,_:: cs=>o:: vA os cs
 |os,[]=>os
 |[],_=>[]
noncomputable def oS(os:Os):World:=
 let w0:=World.holding Tryz.prog os ⟨#[.cells #[.string Oz] 274,.cells #[.string Ox] 274],#[],[]⟩
 { w0 with heap:=(vA w0.heap.toList G6).toArray }
def F5(os:Os)(args:Array Value):laidMet Tryz.prog Rows.stateStaysRow.laid ((oS os).forCall (fun _ _=>0) ⟨#[],args,[]⟩).memory:=
 laidMet_of_run3 8 (by kernel_rfl) (by kernel_rfl) (by kernel_rfl)
end Go.Proofs.YtihmmkncokjbaaaGreatDoor
namespace Go.Proofs.YtihmmkncokjbaaaGreatDoor
open Go Go.Av Go.Av.Ap Go.RowKit
set_option maxRecDepth 1000000
section
variable {H:Type} {enc:TypeId×Value->H} {W:World}
theorem ma:reachBytes=140737488351232:=rfl
theorem Ty.lim_mk{k:Int}{fs:List cE}(h2:fs.length<=140737488355328)(h3:∀v∈fs,v.2.Lim):(Ty.mk k fs).Lim:=fun j=>match j with
 |0=>trivial
 |j+1=>⟨h2,fun x hx=>h3 x hx j⟩
theorem sk{N:Nat}(h:Rd enc Tryz.prog W N 35 (fun v:Ty=>v.cells) Ty.Lim):Rd enc Tryz.prog W (N+1) 23 (fun l:List cE=>[bm l]) (fun l=>l.length<=140737488355328/\∀v∈l,v.2.Lim):=
 (l9 ((il Tryz.underlying37 (by kernel_rfl) (bN (np Tryz.underlying9) rfl (by kernel_rfl:_=1) (bN h rfl (by kernel_rfl:_=2) jP))).map (fun x=>((x.1,x.2.1):cE)) (cells':=fun f=>aa (bZ f)) (Ok':=fun f=>f.2.Lim) (fun x=>by simp[Ty.cells_eq]) (fun x h=>h.2.1))
  Tryz.underlying23 (by kernel_rfl:_=3) (by decide) (by kernel_rfl:_=48) (ev:=bZ) (mq fun v=>by rw[nM];rfl)).map id (fun l=>by simp[bm,jI]) (fun l h=>⟨by have:=h.1;rw[ma]at this;simp only[id];omega,h.2⟩)
theorem Bv:∀N,Rd enc Tryz.prog W N 35 (fun v:Ty=>v.cells) Ty.Lim
 |0=>.zero
 | N+1=>(il Tryz.underlying35 (by kernel_rfl) (bN (o8 Tryz.underlying3) rfl (by kernel_rfl:_=1) (bN ((sk (Bv N)).le (Sp N)) rfl (by kernel_rfl:_=1) jP))).map (fun x=>Ty.mk x.1 x.2.1)
   (fun x=>by simp[Ty.cells_eq,Ty.kind,Ty.fields]) (fun x h=>Ty.lim_mk h.2.1.1 h.2.1.2)
end
end Go.Proofs.YtihmmkncokjbaaaGreatDoor
namespace Go.Proofs.YtihmmkncokjbaaaGreatDoor
open Go Go.Av Go.Av.Ap Go.RowKit
set_option maxRecDepth 1000000
section
variable {H:Type} {enc:TypeId×Value->H} {W:World}
theorem vE(N:Nat):Rd enc Tryz.prog W N 22 (fun l:List aR=>[strs l]) (fun l=>l.length<=8796093022208):=
 (l9 (np Tryz.underlying9) Tryz.underlying22 (by kernel_rfl:_=1) (by decide) (by kernel_rfl:_=16) (Fv fun _=>rfl)).map id (fun _=>rfl) (fun l h=>by have:=h.1;rw[ma]at this;simp only[id];omega)
theorem Exp.lim_mk{o n:Int}{s m:aR}{ns:List aR}{es:List Exp}(h1:ns.length<=8796093022208)(h2:es.length<=140737488355328)(h3:∀v∈es,v.Lim):(Exp.mk o n s m ns es).Lim:=fun j=>match j with
 |0=>trivial
 |j+1=>⟨h1,h2,fun x hx=>h3 x hx j⟩
theorem sg{N:Nat}(h:Rd enc Tryz.prog W N 66 (fun v:Exp=>v.cells) Exp.Lim):Rd enc Tryz.prog W N 24 (fun l:List Exp=>[bE l]) (fun l=>l.length<=140737488355328/\∀v∈l,v.Lim):=
 (l9 h Tryz.underlying24 (by kernel_rfl:_=6) (by decide) (by kernel_rfl:_=96) (ev:=Exp.av) (mq fun v=>rfl)).map id (fun l=>by simp[bE,jF]) (fun l h=>⟨by have:=h.1;rw[ma]at this;simp only[id];omega,h.2⟩)
theorem zZ:∀N,Rd enc Tryz.prog W N 66 (fun v:Exp=>v.cells) Exp.Lim
 |0=>.zero
 | N+1=>(il Tryz.underlying66 (by kernel_rfl) (bN (o8 Tryz.underlying3) rfl (by kernel_rfl:_=1) (bN (o8 Tryz.underlying3) rfl (by kernel_rfl:_=1) (bN (np Tryz.underlying9) rfl (by kernel_rfl:_=1) (bN (np Tryz.underlying9) rfl (by kernel_rfl:_=1)
   (bN (vE N) rfl (by kernel_rfl:_=1) (bN (sg (zZ N)) rfl (by kernel_rfl:_=1) jP))))))).map (fun x=>Exp.mk x.1 x.2.1 x.2.2.1 x.2.2.2.1 x.2.2.2.2.1 x.2.2.2.2.2.1) (fun x=>by simp[Exp.cells_eq,Exp.op,Exp.n,Exp.s,Exp.m,Exp.names,Exp.args]) (fun x h=>Exp.lim_mk h.2.2.2.2.1 h.2.2.2.2.2.1.1 h.2.2.2.2.2.1.2)
theorem vC(N:Nat):Rd enc Tryz.prog W N 24 (fun l:List Exp=>[bE l]) (fun l=>l.length<=140737488355328/\∀v∈l,v.Lim):=sg (zZ N)
theorem vD(N:Nat):Rd enc Tryz.prog W N 23 (fun l:List cE=>[bm l]) (fun l=>l.length<=140737488355328/\∀v∈l,v.2.Lim):=(sk (Bv N)).le (Sp N)
theorem Lz(N:Nat):Rd enc Tryz.prog W (N+1) 68 (fun f:Fun=>aa f.av) Fun.Lim:=
 (il Tryz.underlying68 (by kernel_rfl) (bN (np Tryz.underlying9) rfl (by kernel_rfl:_=1) (bN (Bu Tryz.underlying4) rfl (by kernel_rfl:_=1) (bN (vD N) rfl (by kernel_rfl:_=1) (bN (Bv N) rfl (by kernel_rfl:_=2)
  (bN (o8 Tryz.underlying3) rfl (by kernel_rfl:_=1) (bN (zZ N) rfl (by kernel_rfl:_=6) jP))))))).map (fun x=>(⟨x.1,x.2.1,x.2.2.1,x.2.2.2.1,x.2.2.2.2.1,x.2.2.2.2.2.1⟩:Fun))
  (fun x=>by simp[Ty.cells_eq,Exp.cells_eq]) (fun x h=>⟨h.2.2.1.1,h.2.2.1.2,h.2.2.2.1,h.2.2.2.2.2.1⟩)
theorem Is(N:Nat):Rd enc Tryz.prog W N 25 (fun l:List Fun=>[mI l]) (fun l=>l.length<=140737488355328/\∀v∈l,v.Lim):=
 ((l9 (Lz N) Tryz.underlying25 (by kernel_rfl:_=12) (by decide) (by kernel_rfl:_=184) (ev:=Fun.av) (mq fun v=>rfl)).map id (fun l=>by simp[mI]) (fun l h=>⟨by have:=h.1;rw[ma]at this;simp only[id];omega,h.2⟩)).le (Sp N)
theorem Gz(N:Nat):Rd enc Tryz.prog W (N+1) 29 (fun m:Mod=>aa m.av) Mod.Lim:=
 (il Tryz.underlying29 (by kernel_rfl) (bN (np Tryz.underlying9) rfl (by kernel_rfl:_=1) (bN (vE N) rfl (by kernel_rfl:_=1) (bN (vD N) rfl (by kernel_rfl:_=1) (bN (vC N) rfl (by kernel_rfl:_=1)
  (bN (Is N) rfl (by kernel_rfl:_=1) (bN (Bu Tryz.underlying4) rfl (by kernel_rfl:_=1)
  (bN ((il Tryz.underlying27 (by kernel_rfl) (bN (vD N) rfl (by kernel_rfl:_=1) (bN (vC N) rfl (by kernel_rfl:_=1) (bN (vC N) rfl (by kernel_rfl:_=1) jP)))).le (Sp N)) rfl (by kernel_rfl:_=3) jP)))))))).map
  (fun x=>(⟨x.1,x.2.1,x.2.2.1,x.2.2.2.1,x.2.2.2.2.1,x.2.2.2.2.2.1,x.2.2.2.2.2.2.1.1,x.2.2.2.2.2.2.1.2.1,x.2.2.2.2.2.2.1.2.2.1⟩:Mod))
  (fun x=>by simp) (fun x h=>⟨by have:=h.2.1;simp only;omega,h.2.2.1.1,h.2.2.1.2,h.2.2.2.1.1,h.2.2.2.1.2,h.2.2.2.2.1.1,h.2.2.2.2.1.2,h.2.2.2.2.2.2.1.1.1,h.2.2.2.2.2.2.1.1.2,h.2.2.2.2.2.2.1.2.1.1,h.2.2.2.2.2.2.1.2.1.2,h.2.2.2.2.2.2.1.2.2.1.1,h.2.2.2.2.2.2.1.2.2.1.2⟩)
end
end Go.Proofs.YtihmmkncokjbaaaGreatDoor
namespace Go.Proofs.YtihmmkncokjbaaaGreatDoor
open Go Go.Av Go.Av.Ap Go.RowKit
set_option maxRecDepth 1000000
def BL(v:Val):Prop:=v.Lim/\qI v
def IJ{k n:Int}{ns:List aR}{vs:List Val}(h0:-9223372036854775808<=n/\n<=9223372036854775807)(h1:ns.length<=140737488355328)(h2:vs.length<=140737488355328)(h3:∀v∈vs,BL v):BL (Val.mk k n ns vs):=
 ⟨fun j=>match j with
  |0=>trivial
  |j+1=>⟨h1,h2,fun x hx=>(h3 x hx).1 j⟩,(lT _).2 ⟨h0,fun x hx=>(h3 x hx).2⟩⟩
section
variable {H:Type} {enc:TypeId×Value->H} {W:World}
theorem pS{N:Nat}(h:Rd enc Tryz.prog W N 45 (fun v:Val=>aa v.av) BL):Rd enc Tryz.prog W N 30 (fun l:List Val=>[vals l]) (fun l=>l.length<=140737488355328/\∀v∈l,BL v):=
 (l9 h Tryz.underlying30 (by kernel_rfl:_=4) (by decide) (by kernel_rfl:_=64) (ev:=Val.av) (mq fun v=>by rw[v.av_eq];rfl)).map id (fun l=>by simp[vals,fh]) (fun l h=>⟨by have:=h.1;rw[ma]at this;simp only[id];omega,h.2⟩)
theorem qB:∀N,Rd enc Tryz.prog W N 45 (fun v:Val=>aa v.av) BL
 |0=>.zero
 | N+1=>(il Tryz.underlying45 (by kernel_rfl) (bN (o8 Tryz.underlying3) rfl (by kernel_rfl:_=1) (bN (o8 Tryz.underlying3) rfl (by kernel_rfl:_=1) (bN (vE N) rfl (by kernel_rfl:_=1)
   (bN (pS (qB N)) rfl (by kernel_rfl:_=1) jP))))).map (fun x=>Val.mk x.1 x.2.1 x.2.2.1 x.2.2.2.1) (fun x=>by simp[Val.av_eq,aa]) (fun x h=>IJ (bounds_i64 h.2.1) (by have:=h.2.2.1;omega) h.2.2.2.1.1 h.2.2.2.1.2)
theorem GA(N:Nat):Rd enc Tryz.prog W N 30 (fun l:List Val=>[vals l]) (fun l=>l.length<=140737488355328/\∀v∈l,BL v):=pS (qB N)
end
end Go.Proofs.YtihmmkncokjbaaaGreatDoor
