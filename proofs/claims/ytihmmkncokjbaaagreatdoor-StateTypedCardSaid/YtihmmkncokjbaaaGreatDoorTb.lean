/- What the functions of the seat compute, part 2: the texts of the claim, one behind the other. Conditions: bounds, as each theorem names them. -/
import Derived.Test.YtihmmkncokjbaaaGreatDoorTa
import Derived.Laws.Rows
import Derived.WalkSmall
import Derived.RangeFuncNested
import Derived.RangeFuncBound
import Derived.RangeFuncCalls
import Derived.RangeFuncLeaves
import Derived.RangeFuncBox
import Derived.Shelf.Abstract
import Derived.Shelf.RegionOpen
import Derived.OwnWalkIn
import Derived.TacticsInMore
import Derived.LoopNIn
import Derived.LoopIn
import Derived.Test.YtihmmkncokjbaaaGreatDoorRows
import Derived.Lib.LaidTab
import Derived.Stop.LaidErr
import Derived.Shelf.Vars
import Derived.ProofKit
import Derived.Deep.DeepHandedRow
import Derived.Deep.DeepWitnessRowRef
import Derived.Deep.DeepLaidRun
set_option linter.defProp false
set_option linter.unusedSimpArgs false
set_option linter.unusedVariables false
namespace Go.Proofs.YtihmmkncokjbaaaGreatDoor
open Go Go.Av
set_option maxHeartbeats 4000000 in
set_option maxRecDepth 100000 in
def xL(p q:Addr)(w:World):CallsD Tryz.prog 53 #[.pointer (some p),.pointer (some q)] .returning w fun e u' w'=>e= .returned (.tuple #[])/\u'= .returning/\w'=w:=by
 refine callsD_of_wpS Tryz.func53 rfl fun c₀ cs hu=>?_;apply wpS_seq;apply wpS_region;simp[wpOpsS,go_sem,recoverD,hu,Tryz.ntmps53,Exit.thenS];refine wpS_of_wp ?_
 go_wp2
 cases c₀;simp_all[bodyPostS,results,Tryz.results53]
def EC(w:World):(Instr.typeAssert (.iface 81 (.agg #[])) 20 81 true).run Tryz.prog w= .ok (.tuple #[.agg #[],.bool true]) w:=by kernel_rfl
def yz(w:World):World:=w.alloc (.cells #[] 81)
set_option maxHeartbeats 4000000 in
set_option maxRecDepth 100000 in
def zG(b c:Nat)(x0 x1 x2 x3 y0:Value)(w:World)(c0:(yz w).cell? ⟨b,0,none⟩=some x0)(c1:(yz w).cell? ⟨b,1,none⟩=some x1)(c2:(yz w).cell? ⟨b,2,none⟩=some x2)(c3:(yz w).cell? ⟨b,3,none⟩=some x3)(d0:(yz w).cell? ⟨c,0,none⟩=some y0)(f0:(yz w).frozen? ⟨b,0,none⟩=false)(f1:(yz w).frozen? ⟨b,1,none⟩=false)(f2:(yz w).frozen? ⟨b,2,none⟩=false)(f3:(yz w).frozen? ⟨b,3,none⟩=false)(g0:(yz w).frozen? ⟨c,0,none⟩=false)(hne:¬b=c)(hne':¬c=b):
  CallsD Tryz.prog 53 #[.pointer (some ⟨b,0,none⟩),.pointer (some ⟨c,0,none⟩)] (.panicking [{ v:=.iface 81 (.agg #[]),recovered:=false }]) w fun e u' w'=>
   e= .returned (.tuple #[])/\u'= .panicking [{ v:=.iface 81 (.agg #[]),recovered:=true }]/\w'=(((((yz w).setCell ⟨b,0,none⟩ (.int .i64 0)).setCell ⟨b,1,none⟩ (.int .i64 0)).setCell ⟨b,2,none⟩ (.slice none 0 0)).setCell ⟨b,3,none⟩ (.slice none 0 0)).setCell ⟨c,0,none⟩ (.int .i64 34):=by
 unfold yz at *;refine callsD_of_wpS Tryz.func53 rfl fun c₀ cs hu=>?_;apply wpS_seq;apply wpS_region;simp[wpOpsS,go_sem,recoverD,hu,Tryz.ntmps53,Exit.thenS];refine wpS_of_wp ?_;have h1:=EC;have h2:=EI
 go_wp2
 cases c₀;simp_all[bodyPostS,results,Tryz.results53]
end Go.Proofs.YtihmmkncokjbaaaGreatDoor
namespace Go.Proofs.YtihmmkncokjbaaaGreatDoor
open Go Go.Av
set_option maxRecDepth 100000
def Jr(w:World)(k f:Value):World:=((w.alloc (Obj.cells #[k,f] 35)).alloc (Obj.cells #[Value.int IntKind.i64 0,Value.int IntKind.i64 0,Value.slice none 0 0,Value.slice none 0 0] 45)).alloc (Obj.cells #[Value.int IntKind.i64 0] 39)
def zH(w:World)(k f:Value)(x:ByteArray):World:=(Jr w k f).alloc (Obj.cells #[.string x] 85)
def kL(b:Nat)(w:World)(u0 u1 u2 u3:Value):World:=(((w.setCell ⟨b,0,none⟩ u0).setCell ⟨b,1,none⟩ u1).setCell ⟨b,2,none⟩ u2).setCell ⟨b,3,none⟩ u3
def cW(b:Nat)(w:World):World:=(kL b (yz w) (.int .i64 0) (.int .i64 0) (.slice none 0 0) (.slice none 0 0)).setCell ⟨b+1,0,none⟩ (.int .i64 34)
def mh:Value:=.tuple #[.agg #[.int .i64 0,.int .i64 0,.slice none 0 0,.slice none 0 0],.int .i64 34]
abbrev Mo:Ending:=.panicked [{ v:=.iface 81 (.agg #[]),recovered:=false }]
structure RdRows (n:Nat) (w:World) (k f u0 u1 u2 u3:Value):Prop where
 r0:w.heap[n]? = some (.cells #[k,f] 35 (0,0))
 r1:w.heap[n+1]? = some (.cells #[u0,u1,u2,u3] 45 (0,0))
 r2:w.heap[n+2]? = some (.cells #[Value.int IntKind.i64 0] 39 (0,0))
def qE{w:World}{b:Nat}{o:Obj}(h:w.heap[b]? = some o):(yz w).heap[b]? = some o:=by
 have hb:b<w.heap.size:=by
  rcases PS b w.heap.size with h1|h1
  ·exact h1
  ·rw[Qk h1]at h;cases h
 unfold yz;rw[Go.Av.alloc_old _ _ hb];exact h
def RdRows.vcells{n:Nat}{w:World}{k f x0 x1 x2 x3:Value}(H:RdRows n w k f x0 x1 x2 x3):(w.cell? ⟨n+1,0,none⟩=some x0/\w.cell? ⟨n+1,1,none⟩=some x1/\w.cell? ⟨n+1,2,none⟩=some x2/\w.cell? ⟨n+1,3,none⟩=some x3/\w.cell? ⟨n+2,0,none⟩=some (.int .i64 0))/\
  (w.frozen? ⟨n+1,0,none⟩=false/\w.frozen? ⟨n+1,1,none⟩=false/\w.frozen? ⟨n+1,2,none⟩=false/\w.frozen? ⟨n+1,3,none⟩=false/\w.frozen? ⟨n+2,0,none⟩=false):=
 ⟨⟨by simp[World.cell?,H.r1],by simp[World.cell?,H.r1],by simp[World.cell?,H.r1],by simp[World.cell?,H.r1],by simp[World.cell?,H.r2]⟩,by simp[World.frozen?,H.r1],by simp[World.frozen?,H.r1],by simp[World.frozen?,H.r1],by simp[World.frozen?,H.r1],by simp[World.frozen?,H.r2]⟩
def RdRows.put{n:Nat}{w:World}{k f x0 x1 x2 x3:Value}(H:RdRows n w k f x0 x1 x2 x3)(u0 u1 u2 u3:Value):RdRows n (kL (n+1) w u0 u1 u2 u3) k f u0 u1 u2 u3:=by
 have e0:=heap_setCell_same w (n+1) 0 _ _ u0 H.r1;have e1:=heap_setCell_same _ (n+1) 1 _ _ u1 e0;have e2:=heap_setCell_same _ (n+1) 2 _ _ u2 e1;have e3:=heap_setCell_same _ (n+1) 3 _ _ u3 e2;refine⟨?_,e3,?_⟩
 ·unfold kL;rw[aX (by simp),aX (by simp),aX (by simp),aX (by simp)];exact H.r0
 ·unfold kL;rw[aX (by simp),aX (by simp),aX (by simp),aX (by simp)];exact H.r2
def pS{n:Nat}{w:World}{k f x0 x1 x2 x3:Value}(H:RdRows n w k f x0 x1 x2 x3):CallsD Tryz.prog 53 #[.pointer (some ⟨n+1,0,none⟩),.pointer (some ⟨n+2,0,none⟩)] (.panicking [{ v:=.iface 81 (.agg #[]),recovered:=false }]) w fun e u' w'=>
   e= .returned (.tuple #[])/\u'= .panicking [{ v:=.iface 81 (.agg #[]),recovered:=true }]/\w'=cW (n+1) w:=by
 have r1:=qE H.r1;have r2:=qE H.r2;exact zG (n+1) (n+2) x0 x1 x2 x3 (.int .i64 0) w (by simp[World.cell?,r1]) (by simp[World.cell?,r1]) (by simp[World.cell?,r1]) (by simp[World.cell?,r1]) (by simp[World.cell?,r2])
  (by simp[World.frozen?,r1]) (by simp[World.frozen?,r1]) (by simp[World.frozen?,r1]) (by simp[World.frozen?,r1]) (by simp[World.frozen?,r2]) (by omega) (by omega)
def kb{n:Nat}{w:World}{k f x0 x1 x2 x3:Value}(H:RdRows n w k f x0 x1 x2 x3):(cW (n+1) w).heap[n+1]? = some (.cells #[.int .i64 0,.int .i64 0,.slice none 0 0,.slice none 0 0] 45 (0,0))/\(cW (n+1) w).heap[n+2]? = some (.cells #[Value.int IntKind.i64 34] 39 (0,0)):=by
 have H':RdRows n (yz w) k f x0 x1 x2 x3:=⟨qE H.r0,qE H.r1,qE H.r2⟩;have P:=H'.put (.int .i64 0) (.int .i64 0) (.slice none 0 0) (.slice none 0 0);refine⟨?_,?_⟩
 ·unfold cW;rw[aX (by simp)];exact P.r1
 ·exact heap_setCell_same _ (n+2) 0 _ _ _ P.r2
def vL(n:Nat)(k f u0 u1 u2 u3:Value)(R:Ending->World->Prop):Ending->World->Prop:=fun e w'=>RdRows n w' k f u0 u1 u2 u3/\
 ((e= .returned (.bool true)/\R (.returned (.tuple #[.agg #[u0,u1,u2,u3],.int .i64 0])) ((kL (n+1) w' u0 u1 u2 u3).setCell ⟨n+2,0,none⟩ (.int .i64 0)))\/
  ((e= .returned (.bool false)\/e=Mo)/\R (.returned mh) (cW (n+1) w')))
def vM(n:Nat)(k f:Value)(R:Ending->World->Prop):Ending->World->Prop:=fun e w'=>RdRows n w' k f (.int .i64 0) (.int .i64 0) (.slice none 0 0) (.slice none 0 0)/\
 ((∃(u0 u1 u2 u3:Value)(y:ByteArray),u0.oneCell'=true/\u1.oneCell'=true/\u2.oneCell'=true/\u3.oneCell'=true/\e= .returned (.agg #[u0,u1,u2,u3])/\w'.cell? ⟨n+3,0,none⟩=some (.string y)/\
   ((y.toList.isEmpty=false/\R (.returned mh) (cW (n+1) (kL (n+1) w' u0 u1 u2 u3)))\/
    (y=⟨#[]⟩/\Calls Tryz.prog 20 #[.agg #[k,f],.agg #[u0,u1,u2,u3]] (kL (n+1) w' u0 u1 u2 u3) (vL n k f u0 u1 u2 u3 R))))\/
   (e=Mo/\R (.returned mh) (cW (n+1) w')))
def l8{w:World}{a:Addr}{v x:Value}{m:Mode}(h:w.cell? a=some x)(hf:w.frozen? a=false):stored Tryz.prog w a v m= .ok () (w.setCell a v):=by simp[stored,h,hf]
def zF{w:World}{b:Nat}{t:TypeId}{x0 x1 x2 x3:Value}(H:w.heap[b]? = some (.cells #[x0,x1,x2,x3] t (0,0)))(u0 u1 u2 u3:Value)(m:Mode):
  stored Tryz.prog w ⟨b,0,none⟩ u0 m= .ok () (w.setCell ⟨b,0,none⟩ u0)/\
  stored Tryz.prog (w.setCell ⟨b,0,none⟩ u0) ⟨b,1,none⟩ u1 m= .ok () ((w.setCell ⟨b,0,none⟩ u0).setCell ⟨b,1,none⟩ u1)/\
  stored Tryz.prog ((w.setCell ⟨b,0,none⟩ u0).setCell ⟨b,1,none⟩ u1) ⟨b,2,none⟩ u2 m= .ok () (((w.setCell ⟨b,0,none⟩ u0).setCell ⟨b,1,none⟩ u1).setCell ⟨b,2,none⟩ u2)/\
  stored Tryz.prog (((w.setCell ⟨b,0,none⟩ u0).setCell ⟨b,1,none⟩ u1).setCell ⟨b,2,none⟩ u2) ⟨b,3,none⟩ u3 m= .ok () (kL b w u0 u1 u2 u3):=by
 have e0:=heap_setCell_same w b 0 _ _ u0 H;have e1:=heap_setCell_same _ b 1 _ _ u1 e0;have e2:=heap_setCell_same _ b 2 _ _ u2 e1;exact⟨l8 (x:=x0) (by simp[World.cell?,H]) (by simp[World.frozen?,H]),l8 (x:=x1) (by simp[World.cell?,e0]) (by simp[World.frozen?,e0]),l8 (x:=x2) (by simp[World.cell?,e1]) (by simp[World.frozen?,e1]),l8 (x:=x3) (by simp[World.cell?,e2]) (by simp[World.frozen?,e2])⟩
def CN{b:Nat}{w:World}{u0 u1 u2 u3:Value}{c o:Nat}(h:c≠b):(kL b w u0 u1 u2 u3).cell? ⟨c,o,none⟩=w.cell? ⟨c,o,none⟩:=by
 unfold kL;rw[cell_of_heap (aX h),cell_of_heap (aX h),cell_of_heap (aX h),cell_of_heap (aX h)]
set_option maxHeartbeats 4000000 in
def CP(k f:Value)(hk:k.oneCell'=true)(hf:f.oneCell'=true)(x:ByteArray)(w:World)(R:Ending->World->Prop)(hc:Calls Tryz.prog 54 #[.pointer (some ⟨w.heap.size+3,0,none⟩),.int .i64 4] (zH w k f x) (vM w.heap.size k f R)):Calls Tryz.prog 19 #[.agg #[k,f],.string x] w R:=by
 have hmf:∀(fn:Fn)(first cap:Array Value)(w:World),(Instr.makeFunc fn first cap).run Tryz.prog w= .ok (.func fn first cap) w:=fun _ _ _ _=>rfl;unfold zH Jr at hc
 go_enter_defers Tryz.func19,Tryz.ntmps19
 go_wp2_with (go_at_call 54;refine hc.mono ?_;rintro e w' ⟨H,h⟩;rcases h with⟨u0,u1,u2,u3,y,o0,o1,o2,o3,rfl,hy,h⟩|⟨rfl,hR⟩)
 ·have s0:∀a m (w:World),(store a u0 m).run Tryz.prog w=stored Tryz.prog w a u0 m:=fun a m w=>run_store _ w a u0 m o0;have s1:∀a m (w:World),(store a u1 m).run Tryz.prog w=stored Tryz.prog w a u1 m:=fun a m w=>run_store _ w a u1 m o1;have s2:∀a m (w:World),(store a u2 m).run Tryz.prog w=stored Tryz.prog w a u2 m:=fun a m w=>run_store _ w a u2 m o2;have s3:∀a m (w:World),(store a u3 m).run Tryz.prog w=stored Tryz.prog w a u3 m:=fun a m w=>run_store _ w a u3 m o3;obtain⟨p0,p1,p2,p3⟩:=zF H.r1 u0 u1 u2 u3 .plain;simp only[s0,s1,s2,s3,p0,p1,p2,p3,Result.andThen];have P:=H.put u0 u1 u2 u3;have hy1:(kL (w.heap.size+1) w' u0 u1 u2 u3).cell? ⟨w.heap.size+3,0,none⟩=some (.string y):=by rw[CN (by simp)];exact hy
  clear hc H p0 p1 p2 p3 hy;generalize kL (w.heap.size+1) w' u0 u1 u2 u3=w1 at h P hy1 |-;have t0:w1.cell? ⟨w.heap.size,0,none⟩=some k:=by simp[World.cell?,P.r0]
  have t1:w1.cell? ⟨w.heap.size,1,none⟩=some f:=by simp[World.cell?,P.r0]
  have c0:w1.cell? ⟨w.heap.size+1,0,none⟩=some u0:=by simp[World.cell?,P.r1]
  have c1:w1.cell? ⟨w.heap.size+1,1,none⟩=some u1:=by simp[World.cell?,P.r1]
  have c2:w1.cell? ⟨w.heap.size+1,2,none⟩=some u2:=by simp[World.cell?,P.r1]
  have c3:w1.cell? ⟨w.heap.size+1,3,none⟩=some u3:=by simp[World.cell?,P.r1]
  rcases h with⟨hy0,hR⟩|⟨rfl,hcall⟩
  ·go_wp2
   refine leaves_cons (f:=53) (args:=#[.pointer (some ⟨w.heap.size+1,0,none⟩),.pointer (some ⟨w.heap.size+2,0,none⟩)]) (by simp) (by simp[go_sem]) ?_;refine (pS P).mono ?_;rintro e u' w'' ⟨rfl,rfl,rfl⟩;simp only[settle];refine⟨_,?_,hR⟩;obtain⟨q1,q2⟩:=kb P;have a0:(cW (w.heap.size+1) w1).cell? ⟨w.heap.size+1,0,none⟩=some (.int .i64 0):=by simp[World.cell?,q1]
   have a1:(cW (w.heap.size+1) w1).cell? ⟨w.heap.size+1,1,none⟩=some (.int .i64 0):=by simp[World.cell?,q1]
   have a2:(cW (w.heap.size+1) w1).cell? ⟨w.heap.size+1,2,none⟩=some (.slice none 0 0):=by simp[World.cell?,q1]
   have a3:(cW (w.heap.size+1) w1).cell? ⟨w.heap.size+1,3,none⟩=some (.slice none 0 0):=by simp[World.cell?,q1]
   have a4:(cW (w.heap.size+1) w1).cell? ⟨w.heap.size+2,0,none⟩=some (.int .i64 34):=by simp[World.cell?,q2]
   generalize cW (w.heap.size+1) w1=W at *;simp[results,Tryz.results19,go_sem,mh,a0,a1,a2,a3,a4]
  ·go_wp2_with (go_at_call 20;refine hcall.mono ?_;rintro e w3 ⟨H,h⟩;obtain⟨⟨d0,d1,d2,d3,d4⟩,g0,g1,g2,g3,g4⟩:=H.vcells;rcases h with⟨rfl,hR⟩|⟨rfl|rfl,hR⟩)
   ·clear P;refine leaves_cons (f:=53) (args:=#[.pointer (some ⟨w.heap.size+1,0,none⟩),.pointer (some ⟨w.heap.size+2,0,none⟩)]) (by simp) (by simp[go_sem]) ?_;refine (xL ⟨w.heap.size+1,0,none⟩ ⟨w.heap.size+2,0,none⟩ _).mono ?_;rintro e u' w'' ⟨rfl,rfl,rfl⟩;simp only[settle];refine⟨_,?_,hR⟩;simp[results,Tryz.results19,go_sem,World.cell?_setCell_same,d0,d1,d2,d3,d4]
   ·refine leaves_cons (f:=53) (args:=#[.pointer (some ⟨w.heap.size+1,0,none⟩),.pointer (some ⟨w.heap.size+2,0,none⟩)]) (by simp) (by simp[go_sem]) ?_;refine (pS H).mono ?_;rintro e u' w'' ⟨rfl,rfl,rfl⟩;simp only[settle];refine⟨_,?_,hR⟩;obtain⟨q1,q2⟩:=kb H;have a0:(cW (w.heap.size+1) w3).cell? ⟨w.heap.size+1,0,none⟩=some (.int .i64 0):=by simp[World.cell?,q1]
    have a1:(cW (w.heap.size+1) w3).cell? ⟨w.heap.size+1,1,none⟩=some (.int .i64 0):=by simp[World.cell?,q1]
    have a2:(cW (w.heap.size+1) w3).cell? ⟨w.heap.size+1,2,none⟩=some (.slice none 0 0):=by simp[World.cell?,q1]
    have a3:(cW (w.heap.size+1) w3).cell? ⟨w.heap.size+1,3,none⟩=some (.slice none 0 0):=by simp[World.cell?,q1]
    have a4:(cW (w.heap.size+1) w3).cell? ⟨w.heap.size+2,0,none⟩=some (.int .i64 34):=by simp[World.cell?,q2]
    generalize cW (w.heap.size+1) w3=W at *;simp[results,Tryz.results19,go_sem,mh,a0,a1,a2,a3,a4]
   ·refine leaves_cons (f:=53) (args:=#[.pointer (some ⟨w.heap.size+1,0,none⟩),.pointer (some ⟨w.heap.size+2,0,none⟩)]) (by simp) (by simp[go_sem]) ?_;refine (pS H).mono ?_;rintro e u' w'' ⟨rfl,rfl,rfl⟩;simp only[settle];refine⟨_,?_,hR⟩;obtain⟨q1,q2⟩:=kb H;have a0:(cW (w.heap.size+1) w3).cell? ⟨w.heap.size+1,0,none⟩=some (.int .i64 0):=by simp[World.cell?,q1]
    have a1:(cW (w.heap.size+1) w3).cell? ⟨w.heap.size+1,1,none⟩=some (.int .i64 0):=by simp[World.cell?,q1]
    have a2:(cW (w.heap.size+1) w3).cell? ⟨w.heap.size+1,2,none⟩=some (.slice none 0 0):=by simp[World.cell?,q1]
    have a3:(cW (w.heap.size+1) w3).cell? ⟨w.heap.size+1,3,none⟩=some (.slice none 0 0):=by simp[World.cell?,q1]
    have a4:(cW (w.heap.size+1) w3).cell? ⟨w.heap.size+2,0,none⟩=some (.int .i64 34):=by simp[World.cell?,q2]
    generalize cW (w.heap.size+1) w3=W at *;simp[results,Tryz.results19,go_sem,mh,a0,a1,a2,a3,a4]
 ·refine leaves_cons (f:=53) (args:=#[.pointer (some ⟨w.heap.size+1,0,none⟩),.pointer (some ⟨w.heap.size+2,0,none⟩)]) (by simp) (by simp[go_sem]) ?_;refine (pS H).mono ?_;rintro e u' w'' ⟨rfl,rfl,rfl⟩;simp only[settle];refine⟨_,?_,hR⟩;obtain⟨q1,q2⟩:=kb H;have a0:(cW (w.heap.size+1) w').cell? ⟨w.heap.size+1,0,none⟩=some (.int .i64 0):=by simp[World.cell?,q1]
  have a1:(cW (w.heap.size+1) w').cell? ⟨w.heap.size+1,1,none⟩=some (.int .i64 0):=by simp[World.cell?,q1]
  have a2:(cW (w.heap.size+1) w').cell? ⟨w.heap.size+1,2,none⟩=some (.slice none 0 0):=by simp[World.cell?,q1]
  have a3:(cW (w.heap.size+1) w').cell? ⟨w.heap.size+1,3,none⟩=some (.slice none 0 0):=by simp[World.cell?,q1]
  have a4:(cW (w.heap.size+1) w').cell? ⟨w.heap.size+2,0,none⟩=some (.int .i64 34):=by simp[World.cell?,q2]
  generalize cW (w.heap.size+1) w'=W at *;simp[results,Tryz.results19,go_sem,mh,a0,a1,a2,a3,a4]
def Fh{S S1:aE}{β β1:List bT}{w w1:World}{h h1:Hp}(hg:pF S β h w)(L:Go.Av.Left (bZ β h) S β w S1 β1 w1 h1):pF S1 β1 h1 w1:=by
 have hlt:=hg.1.lt;refine⟨hg.1.mono fun b hb=>(L.keep b (by omega) (hg.2.1 b hb)).1,fun b hb ho=>?_,hg.2.2.mono L.le⟩;rcases L.owned b ho with h|h
 ·exact hg.2.1 b hb h
 ·omega
def Fy{S:aE}{w w2:World}(hw:Wf S w)(hg:Gro w w2)(hold:∀b,b<w.heap.size->w2.heap[b]? = w.heap[b]?):Go.Av.Left (bZ [] []) S [] w S [] w2 []:=
 ⟨aE.le_refl S,fk.refl _,fun b o v hv=>by rw[cell_of_heap (hold b (hw.lt hv))];exact hw b o v hv,hg,fun b hb _=>⟨hold b hb,fun _=>rfl⟩,ck.nil,fun b ho=>by obtain⟨l,_,_,h1,_⟩:=ho;simp at h1⟩
def RdRows.keep{n:Nat}{w w':World}{k f x0 x1 x2 x3:Value}(H:RdRows n w k f x0 x1 x2 x3)(h:∀j,j<3->w'.heap[n+j]? = w.heap[n+j]?):RdRows n w' k f x0 x1 x2 x3:=
 ⟨(h 0 (by omega)).trans H.r0,(h 1 (by omega)).trans H.r1,(h 2 (by omega)).trans H.r2⟩
def F7(w:World)(k f:Value)(x:ByteArray):(zH w k f x).heap.size=w.heap.size+4:=by simp[zH,Jr]
def H4(w:World)(k f:Value)(x:ByteArray)(b:Nat)(hb:b<w.heap.size):(zH w k f x).heap[b]? = w.heap[b]?:=by
 unfold zH Jr;rw[Go.Av.alloc_old _ _ (by simp;omega),Go.Av.alloc_old _ _ (by simp;omega),Go.Av.alloc_old _ _ (by simp;omega),Go.Av.alloc_old _ _ hb]
def Bi(w:World)(k f:Value)(x:ByteArray):Gro w (zH w k f x):=(((Gro.alloc w _ _).trans (Gro.alloc _ _ _)).trans (Gro.alloc _ _ _)).trans (Gro.alloc _ _ _)
def F6(w:World)(k f:Value)(x:ByteArray):RdRows w.heap.size (zH w k f x) k f (.int .i64 0) (.int .i64 0) (.slice none 0 0) (.slice none 0 0):=by
 unfold zH Jr;refine⟨?_,?_,?_⟩
 ·rw[Go.Av.alloc_old _ _ (by simp;omega),Go.Av.alloc_old _ _ (by simp;omega),Go.Av.alloc_old _ _ (by simp)];exact heap_alloc_new w _
 ·rw[Go.Av.alloc_old _ _ (by simp),Go.Av.alloc_old _ _ (by simp)]
  have:=heap_alloc_new (w.alloc (Obj.cells #[k,f] 35)) (Obj.cells #[Value.int IntKind.i64 0,Value.int IntKind.i64 0,Value.slice none 0 0,Value.slice none 0 0] 45)
  rwa [World.size_alloc]at this
 ·rw[Go.Av.alloc_old _ _ (by simp)]
  have:=heap_alloc_new ((w.alloc (Obj.cells #[k,f] 35)).alloc (Obj.cells #[Value.int IntKind.i64 0,Value.int IntKind.i64 0,Value.slice none 0 0,Value.slice none 0 0] 45)) (Obj.cells #[Value.int IntKind.i64 0] 39)
  rwa [World.size_alloc,World.size_alloc]at this
def H5(w:World)(k f:Value)(x:ByteArray):(zH w k f x).heap[w.heap.size+3]? = some (.cells #[.string x] 85 (0,0)):=by
 unfold zH
 have:=heap_alloc_new (Jr w k f) (Obj.cells #[.string x] 85)
 have hs:(Jr w k f).heap.size=w.heap.size+3:=by simp[Jr]
 rwa [hs]at this
def nK(b:Nat)(w:World)(u0 u1 u2 u3:Value):Gro w (kL b w u0 u1 u2 u3):=(((Gro.setCell _ _ _).trans (Gro.setCell _ _ _)).trans (Gro.setCell _ _ _)).trans (Gro.setCell _ _ _)
def Ce(b:Nat)(w:World):Gro w (cW b w):=((Gro.alloc w _ _).trans (nK _ _ _ _ _ _)).trans (Gro.setCell _ _ _)
def oI{b c:Nat}{w:World}{u0 u1 u2 u3:Value}(h:c≠b):(kL b w u0 u1 u2 u3).heap[c]? = w.heap[c]?:=by
 unfold kL;rw[aX h,aX h,aX h,aX h]
def Cf{b c:Nat}{w:World}(h:c<b)(hs:b<=w.heap.size):(cW b w).heap[c]? = w.heap[c]?:=by
 unfold cW;rw[aX (by simp;omega),oI (by omega)];exact Go.Av.alloc_old _ _ (by omega)
def lS{S:aE}{w w':World}(hw:Wf S w)(hg:Gro w w')(hs:w.heap.size+1<=w'.heap.size)(hold:∀b,b<w.heap.size->w'.heap[b]? = w.heap[b]?):dt none S [] [] w (.ok AC []) (.returned mh) (cW (w.heap.size+1) w'):=by
 refine⟨S,[],mh,rfl,?_,Fy hw (hg.trans (Ce _ _)) (fun b hb=>by rw[Cf (by omega) hs];exact hold b hb),fun sz hsz=>by cases hsz⟩;simp only[AC,mh,VR,bj];refine⟨[.agg #[.int .i64 0,.int .i64 0,.slice none 0 0,.slice none 0 0],.int .i64 34],rfl,_,_,rfl,⟨[.int .i64 0,.int .i64 0,.slice none 0 0,.slice none 0 0],rfl,_,_,rfl,rfl,_,_,rfl,rfl,_,_,rfl,?_,_,_,rfl,?_,rfl⟩,_,_,rfl,rfl,rfl⟩
 ·exact⟨none,0,rfl,Pw _,fun _=>rfl,fun q hq=>by cases hq⟩
 ·exact⟨none,0,rfl,Pw _,fun _=>rfl,fun q hq=>by cases hq⟩
def mf{v:AV}{h:Hp}(hne:ia 81 (.pan v h)≠.fail):v= .iface 81 (.agg [])/\ia 81 (.pan v h)= .ok AC []:=by
 unfold ia at hne |-;split at hne
 ·rename_i heq;cases heq
 ·rename_i t h' heq;cases heq;cases hb:Nat.beq t 81 with
  |false=>rw[hb]at hne;exact absurd rfl hne
  |true=>rw[PI hb];exact⟨rfl,rfl⟩
 ·exact absurd rfl hne
 ·exact absurd rfl hne
def Bh{S:aE}{β:List bT}{v:Value}(h:VR S β (.iface 81 (.agg [])) v):v= .iface 81 (.agg #[]):=by
 simp only[VR,bj]at h;obtain⟨x,rfl,vs,rfl,rfl⟩:=h;rfl
def AR{n:Nat}{s:List UInt8}{b:Nat}(h:bZ [(n,1)] [[AV.str s]] b):b=n:=by
 obtain⟨l,cs,m,h1,h2,h3⟩:=h;cases l with
 |zero=>simp at h3;exact h3.1.symm
 |succ l=>simp at h1
def xD{m:Nat}{v:AV}(hm:m≠1)(h:b9 m v=true):∃cs,v= .agg cs:=by
 simp only[b9,Po]at h;have h1:=h.1;cases v<;>simp[cM]at h1<;>first|exact⟨_,rfl⟩|(exfalso;omega)
def Fp(call:FuncId->List AV->M AV)(hC:cK Tryz.prog own call){S S1:aE}{β1:List bT}{w w1:World}{h1:Hp}{k f u0 u1 u2 u3:Value}{t v:AV}(hw:Wf S w)(hg1:pF S1 β1 h1 w1)(L1:Go.Av.Left (bZ [] []) S [] w S1 β1 w1 h1)(hsz:w.heap.size+4<=w1.heap.size)(hB:∀b,w.heap.size<=b->b<w.heap.size+3->¬bZ β1 h1 b/\∀o,S1 b o=none)(hR:RdRows w.heap.size w1 k f u0 u1 u2 u3)(ht:VR S1 β1 t (.agg #[k,f]))(hv:VR S1 β1 v (.agg #[u0,u1,u2,u3]))(hok:b9 4 v=true)(hr:ia 81 ((ae (call 20 [t,v]) fun r=>ap r (M.pure (.tup [.agg (ab v),.int .i64 0])) (d9 (.iface 81 (.agg [])))) h1)≠.fail):
  Calls Tryz.prog 20 #[.agg #[k,f],.agg #[u0,u1,u2,u3]] w1 (vL w.heap.size k f u0 u1 u2 u3 (dt none S [] [] w (ia 81 ((ae (call 20 [t,v]) fun r=>ap r (M.pure (.tup [.agg (ab v),.int .i64 0])) (d9 (.iface 81 (.agg [])))) h1)))):=by
 have hne:call 20 [t,v] h1≠.fail:=fun e=>hr (by unfold ae;rw[e];rfl);have hc:=(hC 20 [t,v] h1 S1 β1 w1 [.agg #[k,f],.agg #[u0,u1,u2,u3]] hne hg1 L1.wf L1.heap (by simp only[bj];exact⟨_,_,rfl,ht,_,_,rfl,hv,rfl⟩)).1;refine hc.mono fun en w2 hp=>?_;have rows:∀S2 β2 h2,Go.Av.Left (bZ β1 h1) S1 β1 w1 S2 β2 w2 h2->RdRows w.heap.size w2 k f u0 u1 u2 u3:=fun S2 β2 h2 L=>hR.keep fun j hj=>(L.keep _ (by omega) (hB _ (by omega) (by omega)).1).1;have old:∀S2 β2 h2,Go.Av.Left (bZ β1 h1) S1 β1 w1 S2 β2 w2 h2->(Gro w w2/\w.heap.size+1<=w2.heap.size/\∀b,b<w.heap.size->w2.heap[b]? = w.heap[b]?):=fun S2 β2 h2 L=>by
  have LL:=L1.trans L
  have:=L.size
  exact⟨LL.gro,by omega,fun b hb=>(LL.keep b hb (fun ho=>by obtain⟨l,_,_,q1,_⟩:=ho;simp at q1)).1⟩
 unfold ae at hr |-;generalize call 20 [t,v] h1=r at hr hne hp |-;cases r with
 |fail=>exact absurd rfl hne
 |pan pv h2=>
  obtain⟨S2,β2,x,rfl,hx,L⟩:=hp;obtain⟨rfl,hcr⟩:=mf hr
  have:=Bh hx
  subst this;obtain⟨g1,g2,g3⟩:=old _ _ _ L;refine⟨rows _ _ _ L,.inr ⟨.inr rfl,?_⟩⟩;show dt none S [] [] w (ia 81 (.pan (.iface 81 (.agg [])) h2)) _ _;rw[hcr];exact lS hw g1 g2 g3
 | ok rv h2=>
  obtain⟨S2,β2,x,rfl,hx,L,-⟩:=hp;obtain⟨g1,g2,g3⟩:=old _ _ _ L;have hrv:∃b,rv= .bool b:=by
   cases rv
   case bool b=>exact⟨b,rfl⟩
   all_goals exact absurd rfl hr
  obtain⟨b,rfl⟩:=hrv;simp only[VR]at hx;subst hx;refine⟨rows _ _ _ L,?_⟩;cases b with
  |false=>exact .inr ⟨.inl rfl,lS hw g1 g2 g3⟩
  | true=>
   refine .inl ⟨rfl,?_⟩;have LL:=(L1.trans L).store (w2:=(kL (w.heap.size+1) w2 u0 u1 u2 u3).setCell ⟨w.heap.size+2,0,none⟩ (.int .i64 0)) ((nK _ _ _ _ _ _).trans (Gro.setCell _ _ _)) (fun b=>w.heap.size<=b/\b<w.heap.size+3) (fun b hb=>by
    have hs:=L1.size;refine⟨hb.1,fun ho=>?_,fun o=>?_⟩
    ·rcases L.owned b ho with ho|ho
     ·exact (hB b hb.1 hb.2).1 ho
     ·omega
    ·rw[(L.keep b (by omega) (hB b hb.1 hb.2).1).2 o];exact (hB b hb.1 hb.2).2 o) (fun b hb=>by
    rw[aX (by intro e;simp at e;omega),oI (by omega)])
   refine⟨S2,β2,_,rfl,?_,LL,fun sz hsz=>by cases hsz⟩;obtain⟨_,hvs,_⟩:=gU hok (hv.mono L.le L.ext);simp only[VR,bj];exact⟨[.agg #[u0,u1,u2,u3],.int .i64 0],rfl,_,_,rfl,⟨[u0,u1,u2,u3],rfl,hvs⟩,_,_,rfl,rfl,rfl⟩
def tN(call:FuncId->List AV->M AV)(t v:AV):M AV:=ae (Ha 4 v) fun _=>ae qX fun s=>ae (af (EY s)) fun b=>ap b (ae (call 20 [t,v]) fun r=>ap r (M.pure (.tup [.agg (ab v),.int .i64 0])) (d9 (.iface 81 (.agg [])))) (d9 (.iface 81 (.agg [])))
theorem xM(call:FuncId->List AV->M AV)(t:AV):Bm 81 54 20 call t=ae (call 54 [.hp 0 0,.int .i64 4]) (tN call t):=rfl
def Gt(call:FuncId->List AV->M AV)(t v:AV)(h1:Hp)(hr:ia 81 (tN call t v h1)≠.fail):b9 4 v=true/\∃s',h1[0]? = some [AV.str s']/\tN call t v h1=ap (.bool s'.isEmpty) (ae (call 20 [t,v]) fun r=>ap r (M.pure (.tup [.agg (ab v),.int .i64 0])) (d9 (.iface 81 (.agg [])))) (d9 (.iface 81 (.agg []))) h1:=by
 have e1:∀g:AV->M AV,ae (Ha 4 v) g h1=bif b9 4 v then g v h1 else .fail:=by intro g;unfold ae Ha;cases b9 4 v<;>rfl
 unfold tN at hr |-;rw[e1]at hr |-;cases hk:b9 4 v with
 |false=>rw[hk]at hr;exact absurd rfl hr
 | true=>
  rw[hk]at hr;simp only[Pq]at hr |-;by_cases hex:∃s',h1[0]? = some [AV.str s']
  ·obtain⟨s',hrow⟩:=hex;have e2:∀g:AV->M AV,ae qX g h1=g (.str s') h1:=by intro g;unfold ae qX;rw[hrow]
   exact⟨trivial,s',hrow,by rw[e2];rfl⟩
  ·have e2:∀g:AV->M AV,ae qX g h1= .fail:=by
    intro g;have:qX h1= .fail:=by
     unfold qX;split
     ·exact absurd ⟨_,by assumption⟩ hex
     ·rfl
    unfold ae;rw[this]
   rw[e2]at hr;exact absurd rfl hr
def MF(call:FuncId->List AV->M AV)(hC:cK Tryz.prog own call)(args:List AV)(h:Hp)(S:aE)(β:List bT)(w:World)(vs:List Value)(hr:tB 81 54 20 call args h≠.fail)(hg:pF S β h w)(hw:Wf S w)(hh:ck S β w h)(hv:bj S β args vs):
  Calls Tryz.prog 19 vs.toArray w (dt none S β h w (tB 81 54 20 call args h)):=by
 have hr':tC 81 54 20 call (dp az args) []≠.fail:=by
  intro hf;unfold tB iW at hr;rw[hf]at hr;exact hr rfl
 have hv':=wk hv;have hg':pF S [] [] w:=⟨hg.1,fun b _ hb=>by obtain⟨l,_,_,h1,_⟩:=hb;simp at h1,hg.2.2⟩
 suffices key:Calls Tryz.prog 19 vs.toArray w (dt none S [] [] w (tC 81 54 20 call (dp az args) []))from key.mono fun en w' hp=>xg hw hh hp
 generalize dp az args=ar at hr' hv' |-;clear hr hv hh hg;unfold tC at hr' |-;split at hr'
 case h_2=>exact absurd rfl hr'
 rename_i t s _;cases ho:b9 2 t with
 |false=>rw[ho]at hr';exact absurd rfl hr'
 | true=>
  rw[ho]at hr';simp only[Pq]at hr' |-;simp only[bj]at hv';obtain⟨vt,r,rfl,ht,hv'⟩:=hv';obtain⟨xv,r',rfl,hxv,rfl⟩:=hv';simp only[VR]at hxv;obtain⟨x,rfl,hx⟩:=hxv;obtain⟨g1,g2,g3⟩:=gU ho ht;obtain⟨tc,rfl⟩:=xD (by decide) ho;have ht0:=ht;simp only[VR]at ht;obtain⟨us,rfl,hus⟩:=ht;simp only[Value.cells]at g1 g3
  match us,g1 with
  | [k,f],_=>
   clear hus g2;have hk:=g3 k (by simp);have hf:=g3 f (by simp);refine CP k f hk hf x w _ ?_;have hs0:=F7 w k f x;have hold:=H4 w k f x;have hX:ck S [(w.heap.size+3,1)] (zH w k f x) [[AV.str s]]:=ck.push (β:=[]) (h:=[]) ck.nil hw hold (by omega) (H5 w k f x) (by simp only[bj,VR];exact⟨_,_,rfl,⟨x,rfl,hx⟩,rfl⟩) (fun t' ht=>by obtain⟨a,ha,hb⟩:=ht;rw[Qd.1 ha]at hb;cases hb);have hG:pF S [(w.heap.size+3,1)] [[AV.str s]] (zH w k f x):=⟨hg'.1.mono fun b hb=>hold b (Qc hb hg'.1.lt),fun b hb ho=>by have:=AR ho;have:=hg'.1.lt;omega,hg'.2.2⟩;have hne:call 54 [.hp 0 0,.int .i64 4] [[AV.str s]]≠.fail:=fun e=>hr' (by rw[xM];unfold ae;rw[e];rfl);have hc:=(hC 54 [.hp 0 0,.int .i64 4] [[AV.str s]] S [(w.heap.size+3,1)] (zH w k f x) [.pointer (some ⟨w.heap.size+3,0,none⟩),.int .i64 4] hne hG (hw.grow hold) hX (by simp only[bj,VR];exact⟨_,_,rfl,⟨(w.heap.size+3,1),rfl,by simp,rfl⟩,_,_,rfl,rfl,rfl⟩)).1;refine hc.mono fun en w1 hp=>?_;have rows:∀S1 β1 h1,Go.Av.Left (bZ [(w.heap.size+3,1)] [[AV.str s]]) S [(w.heap.size+3,1)] (zH w k f x) S1 β1 w1 h1->RdRows w.heap.size w1 k f (.int .i64 0) (.int .i64 0) (.slice none 0 0) (.slice none 0 0):=fun S1 β1 h1 L=>(F6 w k f x).keep fun j hj=>(L.keep _ (by omega) (fun ho=>by have:=AR ho;omega)).1;rw[xM]at hr' |-;unfold ae at hr' |-;generalize call 54 [.hp 0 0,.int .i64 4] [[AV.str s]]=r at hr' hne hp |-;cases r with
   |fail=>exact absurd rfl hne
   |pan pv h1=>
    obtain⟨S1,β1,z,rfl,hz,L⟩:=hp;obtain⟨rfl,hcr⟩:=mf hr'
    have:=Bh hz
    subst this;have LL:=tb (β:=[]) (h:=[]) hw ck.nil (Bi w k f x) hold (by simp) L;refine⟨rows _ _ _ L,.inr ⟨rfl,?_⟩⟩;show dt none S [] [] w (ia 81 (.pan (.iface 81 (.agg [])) h1)) _ _;rw[hcr]
    have:=L.size
    exact lS hw LL.gro (by omega) fun b hb=>(LL.keep b hb (fun ho=>by obtain⟨l,_,_,q1,_⟩:=ho;simp at q1)).1
   | ok v h1=>
    obtain⟨S1,β1,z,rfl,hz,L,-⟩:=hp;have hR1:=rows _ _ _ L;have hs1:=L.size;have hown:∀b,w.heap.size<=b->b<w.heap.size+3->¬bZ β1 h1 b/\∀o,S1 b o=none:=fun b hb1 hb2=>by
     refine⟨fun ho=>?_,fun o=>?_⟩
     ·rcases L.owned b ho with ho|ho
      ·have:=AR ho;omega
      ·omega
     ·rw[(L.keep b (by omega) (fun ho=>by have:=AR ho;omega)).2 o];exact hw.none hb1 o
    have LL:=tb (β:=[]) (h:=[]) hw ck.nil (Bi w k f x) hold (by simp) L;change ia 81 (tN call (.agg tc) v h1)≠.fail at hr';show vM w.heap.size k f (dt none S [] [] w (ia 81 (tN call (.agg tc) v h1))) _ _;obtain⟨hok,s',hrow,e3⟩:=Gt call (.agg tc) v h1 hr';rw[e3]at hr' |-;refine⟨hR1,.inl ?_⟩;obtain⟨hlen,ω,hHr⟩:=L.heap;have hb0:β1[0]? = some (w.heap.size+3,1):=L.ext 0 _ rfl;obtain⟨y',q1,⟨ty,q2⟩,_,q4,_⟩:=hHr.cells hrow (by simp) hb0 (by decide);simp only[bj,VR]at q4;obtain⟨_,_,q5,⟨y,rfl,hy⟩,rfl⟩:=q4;have hyc:w1.cell? ⟨w.heap.size+3,0,none⟩=some (.string y):=by
     have h0:y'[0]? = some (.string y):=by
      have:=Pp (fun l=>l[0]?) q5
      simpa using this
     simp[World.cell?,q2,h0]
    obtain⟨p1,p2,p3⟩:=gU hok hz;have hz0:=hz;obtain⟨vc,rfl⟩:=xD (by decide) hok;simp only[VR]at hz;obtain⟨us,rfl,hus⟩:=hz;simp only[Value.cells]at p1 p3
    match us,p1 with
    | [u0,u1,u2,u3],_=>
     refine⟨u0,u1,u2,u3,y,p3 u0 (by simp),p3 u1 (by simp),p3 u2 (by simp),p3 u3 (by simp),rfl,hyc,?_⟩;have L2:=LL.store (w2:=kL (w.heap.size+1) w1 u0 u1 u2 u3) (nK _ _ _ _ _ _) (fun b=>w.heap.size<=b/\b<w.heap.size+3) (fun b hb=>⟨hb.1,hown b hb.1 hb.2⟩) (fun b hb=>oI (by omega));have hs2:w.heap.size+4<=(kL (w.heap.size+1) w1 u0 u1 u2 u3).heap.size:=by have:=(nK (w.heap.size+1) w1 u0 u1 u2 u3).size;omega
     cases hse:s'.isEmpty with
     |false=>
      refine .inl ⟨?_,?_⟩
      ·rw[ByteArray.toList_eq,hy,hse]
      ·exact lS hw L2.gro (by omega) fun b hb=>(L2.keep b hb (fun ho=>by obtain⟨l,_,_,q1,_⟩:=ho;simp at q1)).1
     | true=>
      rw[hse]at hr';refine .inr ⟨?_,?_⟩
      ·have:s'=[]:=List.isEmpty_iff.1 hse;subst this;obtain⟨⟨l⟩⟩:=y;simp only at hy;rw[hy]
      ·exact Fp call hC hw (Fh hg' L2) L2 hs2 hown (hR1.put u0 u1 u2 u3) (ht0.mono L2.le (fk.nil _)) hz0 hok hr'
noncomputable def wo(n:Nat)(a:Ann):Cx:={ T:=T,call:=fun _ _=>M.fail,own:=own,iso:=fun _=>false,nw:=fun _=>false,nt:=n,ann:=a }
def nZ(n:Nat)(a:Ann):cK Tryz.prog (wo n a).own (wo n a).call:=fun f args h S β w vs hr=>absurd rfl hr
def ul(n:Nat)(a:Ann):IsoCall (wo n a):=⟨fun f args h=>Bool.noConfusion h,fun f args h=>Bool.noConfusion h⟩
def Mf(e:AV)(es:List AV):cN (wo Tryz.f249.ntmps ub) (da 0) Tryz.f249 none [.sl (e:: es)]=ae (appH T 30 true (.sl []) (.sl (e:: es))) fun v=>ae (af (some v)) M.pure:=by kernel_rfl
def Mg:cN (wo Tryz.f249.ntmps ub) (da 0) Tryz.f249 none [.hn]=ae (af (some (.sl []))) M.pure:=by kernel_rfl
def Mh(l off:Nat):cN (wo Tryz.f249.ntmps ub) (da 0) Tryz.f249 none [.hs l off 0 1 false]=ae (appH T 30 true (.sl []) (.hs l off 0 1 false)) fun v=>ae (af (some v)) M.pure:=by kernel_rfl
def Mb(e:AV)(es:List AV):cN (wo Tryz.f219.ntmps ua) (da 0) Tryz.f219 none [.sl (e:: es)]=ae (af (cQ T 22 (.sl []) (.sl (e:: es)))) fun v=>ae (af (some v)) M.pure:=by kernel_rfl
def Mc:cN (wo Tryz.f219.ntmps ua) (da 0) Tryz.f219 none [.hn]=ae (af (some (.sl []))) M.pure:=by kernel_rfl
def Md(l off:Nat):cN (wo Tryz.f219.ntmps ua) (da 0) Tryz.f219 none [.hs l off 0 1 false]=ae (af (cQ T 22 (.sl []) (.hs l off 0 1 false))) fun v=>ae (af (some v)) M.pure:=by kernel_rfl
def Me(l off:Nat):cQ T 22 (.sl []) (.hs l off 0 1 false)=some (.sl []):=by rfl
def KN(call:FuncId->List AV->M AV)(args:List AV)(h:Hp)(S:aE)(β:List bT)(w:World)(vs:List Value)(hr:fV T 30 call args h≠.fail)(hg:pF S β h w)(hw:Wf S w)(hh:ck S β w h)(hv:bj S β args vs):
  Calls Tryz.prog 249 vs.toArray w (dt none S β h w (fV T 30 call args h)):=by
 have key:∀es,args=[.sl es]->Calls Tryz.prog 249 vs.toArray w (dt none S β h w (fV T 30 call args h)):=by
  rintro es rfl;exact (kZ (cx:=wo Tryz.f249.ntmps ub) (E:=fun es h=>fV T 30 call [.sl es] h) tok (nZ _ _) (ul _ _) Tryz.func249 rfl (fun h=>by rfl) (fun e es h=>by rw[Mf];exact congrFun (yL _) h) (fun h=>by rw[Mg];rfl) (fun l off h=>by rw[Mh];rfl) hr hg hw hh hv).1
 unfold fV at hr;split at hr
 ·exact key _ rfl
 ·exact absurd rfl hr
def KM(call:FuncId->List AV->M AV)(args:List AV)(h:Hp)(S:aE)(β:List bT)(w:World)(vs:List Value)(hr:fe T 22 call args h≠.fail)(hg:pF S β h w)(hw:Wf S w)(hh:ck S β w h)(hv:bj S β args vs):
  Calls Tryz.prog 219 vs.toArray w (dt none S β h w (fe T 22 call args h)):=by
 have key:∀es,args=[.sl es]->Calls Tryz.prog 219 vs.toArray w (dt none S β h w (fe T 22 call args h)):=by
  rintro es rfl;exact (kZ (cx:=wo Tryz.f219.ntmps ua) (E:=fun es h=>fe T 22 call [.sl es] h) tok (nZ _ _) (ul _ _) Tryz.func219 rfl (fun h=>by rfl) (fun e es h=>by rw[Mb];exact congrFun (yL _) h) (fun h=>by rw[Mc];rfl) (fun l off h=>by rw[Md,Me];rfl) hr hg hw hh hv).1
 unfold fe at hr;split at hr
 ·exact key _ rfl
 ·exact absurd rfl hr
def Lz:Prop:=∀call,cK Tryz.prog own call->∀(args:List AV)(h:Hp)(S:aE)(β:List bT)(w:World)(vs:List Value),yk 39 .i64 (.agg [.int .i64 0,.int .i64 0,.sl [],.sl []]) call args h≠.fail->pF S β h w->Wf S w->ck S β w h->bj S β args vs->
 Calls Tryz.prog 132 vs.toArray w (dt none S β h w (yk 39 .i64 (.agg [.int .i64 0,.int .i64 0,.sl [],.sl []]) call args h))
def oN(w:World):World:=(w.alloc (Obj.cells #[Value.int IntKind.i64 0,Value.int IntKind.i64 0,Value.slice none 0 0,Value.slice none 0 0] 45)).alloc (Obj.cells #[Value.int IntKind.i64 0] 39)
def Ae(w w':World)(u0 u1 u2 u3 e:Value):World:=((((w'.setCell ⟨w.heap.size,0,none⟩ u0).setCell ⟨w.heap.size,1,none⟩ u1).setCell ⟨w.heap.size,2,none⟩ u2).setCell ⟨w.heap.size,3,none⟩ u3).setCell ⟨w.heap.size+1,0,none⟩ e
def N7(w:World)(R:Ending->World->Prop):Ending->World->Prop:=fun e w'=>
 w'.heap[w.heap.size]? = (oN w).heap[w.heap.size]? /\w'.heap[w.heap.size+1]? = (oN w).heap[w.heap.size+1]? /\
 ((∃u0 u1 u2 u3:Value,u0.oneCell'=true/\u1.oneCell'=true/\u2.oneCell'=true/\u3.oneCell'=true/\e= .returned (.agg #[u0,u1,u2,u3])/\R (.returned (.tuple #[.agg #[u0,u1,u2,u3],.int .i64 0])) (Ae w w' u0 u1 u2 u3 (.int .i64 0)))\/
  ∃n,e= .panicked [{ v:=.iface 39 (.int .i64 n),recovered:=false }]/\R (.returned (.tuple #[.agg #[.int .i64 0,.int .i64 0,.slice none 0 0,.slice none 0 0],.int .i64 n])) (Ae w w' (.int .i64 0) (.int .i64 0) (.slice none 0 0) (.slice none 0 0) (.int .i64 n)))
set_option maxHeartbeats 4000000 in
def Gy(g:FuncId)(x y:Array Value)(w:World)(R:Ending->World->Prop)(hfn:(Tryz.prog.funcs[g]?).any (fun fn=>fn.body.isSome&&!(fn.name== "runtime.NumGoroutine"))=true)(hc:Calls Tryz.prog g (x++y) (oN w) (N7 w R)):Calls Tryz.prog 132 #[.func (.func g) x y] w R:=by
 have hmf:∀(fn:Fn)(first cap:Array Value)(w:World),(Instr.makeFunc fn first cap).run Tryz.prog w= .ok (.func fn first cap) w:=fun _ _ _ _=>rfl
 go_enter_defers Tryz.func132,Tryz.ntmps132
 go_wp2
 rw[ix hfn,Oper.upon_enter];refine hc.mono fun e w' h=>?_;obtain⟨k0,k1,h⟩:=h;have r0:w'.heap[w.heap.size]? = some (.cells #[Value.int IntKind.i64 0,Value.int IntKind.i64 0,Value.slice none 0 0,Value.slice none 0 0] 45):=by rw[k0];exact (Go.Av.alloc_old _ _ (by simp)).trans (heap_alloc_new w _)
 have r1:w'.heap[w.heap.size+1]? = some (.cells #[Value.int IntKind.i64 0] 39):=by rw[k1];have:=heap_alloc_new (w.alloc (Obj.cells #[Value.int IntKind.i64 0,Value.int IntKind.i64 0,Value.slice none 0 0,Value.slice none 0 0] 45)) (Obj.cells #[Value.int IntKind.i64 0] 39);rwa [World.size_alloc]at this
 have c0:w'.cell? ⟨w.heap.size,0,none⟩=some (.int .i64 0):=by simp[World.cell?,r0]
 have c1:w'.cell? ⟨w.heap.size,1,none⟩=some (.int .i64 0):=by simp[World.cell?,r0]
 have c2:w'.cell? ⟨w.heap.size,2,none⟩=some (.slice none 0 0):=by simp[World.cell?,r0]
 have c3:w'.cell? ⟨w.heap.size,3,none⟩=some (.slice none 0 0):=by simp[World.cell?,r0]
 have d0:w'.cell? ⟨w.heap.size+1,0,none⟩=some (.int .i64 0):=by simp[World.cell?,r1]
 have f0:w'.frozen? ⟨w.heap.size,0,none⟩=false:=by simp[World.frozen?,r0]
 have f1:w'.frozen? ⟨w.heap.size,1,none⟩=false:=by simp[World.frozen?,r0]
 have f2:w'.frozen? ⟨w.heap.size,2,none⟩=false:=by simp[World.frozen?,r0]
 have f3:w'.frozen? ⟨w.heap.size,3,none⟩=false:=by simp[World.frozen?,r0]
 have g0:w'.frozen? ⟨w.heap.size+1,0,none⟩=false:=by simp[World.frozen?,r1]
 clear k0 k1 r0 r1 hc hmf;rcases h with⟨u0,u1,u2,u3,o0,o1,o2,o3,rfl,hR⟩|⟨n,rfl,hR⟩
 ·simp only;rename_i K1 hK1 K hK;apply hK;clear hK;have hK1':=hK1;clear hK1;have s0:∀a m (w:World),(store a u0 m).run Tryz.prog w=stored Tryz.prog w a u0 m:=fun a m w=>run_store _ w a u0 m o0;have s1:∀a m (w:World),(store a u1 m).run Tryz.prog w=stored Tryz.prog w a u1 m:=fun a m w=>run_store _ w a u1 m o1;have s2:∀a m (w:World),(store a u2 m).run Tryz.prog w=stored Tryz.prog w a u2 m:=fun a m w=>run_store _ w a u2 m o2;have s3:∀a m (w:World),(store a u3 m).run Tryz.prog w=stored Tryz.prog w a u3 m:=fun a m w=>run_store _ w a u3 m o3
  go_wp2
  change Leaves _ _ _ _ _ _ _;refine leaves_cons (f:=165) (args:=#[.pointer (some ⟨w.heap.size,0,none⟩),.pointer (some ⟨w.heap.size+1,0,none⟩)]) (by simp) (by simp[go_sem]) ?_;refine (yR ⟨w.heap.size,0,none⟩ ⟨w.heap.size+1,0,none⟩ _).mono ?_;rintro e u' w'' ⟨rfl,rfl,rfl⟩;simp only[Leaves,settle];refine⟨_,?_,hR⟩;simp[results,Tryz.results132,go_sem,Ae,World.cell?_setCell_same,c0,c1,c2,c3,d0]
 ·change Leaves _ _ _ _ _ _ _;refine leaves_cons (f:=165) (args:=#[.pointer (some ⟨w.heap.size,0,none⟩),.pointer (some ⟨w.heap.size+1,0,none⟩)]) (by simp) (by simp[go_sem]) ?_;refine (BU w.heap.size (w.heap.size+1) _ _ _ _ _ n w' c0 c1 c2 c3 d0 f0 f1 f2 f3 g0 (by omega) (by omega)).mono ?_;rintro e u' w'' ⟨rfl,rfl,rfl⟩;simp only[Leaves,settle];refine⟨_,?_,hR⟩;simp[results,Tryz.results132,go_sem,Ae,World.cell?_setCell_same,c0,c1,c2,c3,d0]
def oO(w:World):(oN w).heap.size=w.heap.size+2:=by simp[oN]
def Gx(w:World)(b:Nat)(hb:b<w.heap.size):(oN w).heap[b]? = w.heap[b]?:=by
 unfold oN;rw[Go.Av.alloc_old _ _ (by simp;omega),Go.Av.alloc_old _ _ hb]
def yo(w:World):Gro w (oN w):=(Gro.alloc w _ _).trans (Gro.alloc _ _ _)
def yn(w w':World)(u0 u1 u2 u3 e:Value):Gro w' (Ae w w' u0 u1 u2 u3 e):=
 ((((Gro.setCell _ _ _).trans (Gro.setCell _ _ _)).trans (Gro.setCell _ _ _)).trans (Gro.setCell _ _ _)).trans (Gro.setCell _ _ _)
def tO(w w':World)(u0 u1 u2 u3 e:Value)(b:Nat)(hb:¬(w.heap.size<=b/\b<(oN w).heap.size)):(Ae w w' u0 u1 u2 u3 e).heap[b]? = w'.heap[b]?:=by
 rw[oO]at hb;unfold Ae;rw[aX (by simp;omega),aX (by simp;omega),aX (by simp;omega),aX (by simp;omega),aX (by simp;omega)]
def BS{call:FuncId->List AV->M AV}{f:AV}{xs:List AV}{h:Hp}(hr:bu call f xs h≠.fail):∃g a c,f= .fn (.func g) a c:=by
 unfold bu at hr;split at hr
 ·exact⟨_,_,_,rfl⟩
 ·exact absurd rfl hr
theorem KX:Lz:=by
 intro call hC args h S β w vs hr hg hw hh hv
 have key:∀f,args=[f]->Calls Tryz.prog 132 vs.toArray w (dt none S β h w (yk 39 .i64 (.agg [.int .i64 0,.int .i64 0,.sl [],.sl []]) call args h)):=by
  rintro f rfl;have ht:yk 39 .i64 (.agg [.int .i64 0,.int .i64 0,.sl [],.sl []]) call [f] h=ym 39 .i64 (.agg [.int .i64 0,.int .i64 0,.sl [],.sl []]) (bu call f [] h):=rfl;rw[ht]at hr |-;clear ht;simp only[bj]at hv;obtain⟨fv,_,rfl,hv,rfl⟩:=hv;have hne:bu call f [] h≠.fail:=fun e=>by rw[e]at hr;exact hr rfl
  obtain⟨g,a,c,rfl⟩:=BS hne
  ·have hcv:bu call (.fn (.func g) a c) [] h=call g (a++[]++c) h:=rfl;rw[hcv]at hr hne |-;simp only[VR]at hv;obtain⟨x,y,rfl,hx,hy⟩:=hv;have hold:=Gx w;have hv2:bj S β (a++[]++c) (x++y):=by simpa using hx.append hy
   obtain⟨hcall,hfn⟩:=hC g (a++[]++c) h S β (oN w) (x++y) hne ⟨hg.1.mono fun b hb=>hold b (Qc hb hg.1.lt),hg.2⟩ (hw.grow hold) (hh.grow hold) hv2;refine Gy g x.toArray y.toArray w _ hfn ?_;have e:(x++y).toArray=x.toArray++y.toArray:=by simp
   rw[<- e];refine hcall.mono fun en w' hp=>?_;have kk:∀S' β' h',Go.Av.Left (bZ β h) S β (oN w) S' β' w' h'->w'.heap[w.heap.size]? = (oN w).heap[w.heap.size]? /\w'.heap[w.heap.size+1]? = (oN w).heap[w.heap.size+1]?:=fun S' β' h' L=>
    ⟨(L.keep _ (by rw[oO];omega) fun ho=>by have:=hh.low ho;omega).1,(L.keep _ (by rw[oO];omega) fun ho=>by have:=hh.low ho;omega).1⟩
   generalize call g (a++[]++c) h=r at hr hne hp |-;cases r with
   |fail=>exact absurd rfl hne
   | ok v h'=>
    obtain⟨S',β',u,rfl,hu,L,_⟩:=hp;refine⟨(kk _ _ _ L).1,(kk _ _ _ L).2,.inl ?_⟩;simp only[ym]at hr |-;cases hok:b9 4 v with
    |false=>rw[hok]at hr;exact absurd rfl hr
    | true=>
     obtain⟨g1,g2,g3⟩:=gU hok hu;have hcs:∃cs,v= .agg cs:=by
      simp only[b9,Po]at hok;have h1:=hok.1;cases v<;>simp[cM]at h1;exact⟨_,rfl⟩
     obtain⟨cs,rfl⟩:=hcs;simp only[VR]at hu;obtain⟨us,rfl,hus⟩:=hu;simp only[Value.cells]at g1 g3
     match us,g1 with
     |[u0,u1,u2,u3],_=>
      refine⟨u0,u1,u2,u3,g3 u0 (by simp),g3 u1 (by simp),g3 u2 (by simp),g3 u3 (by simp),rfl,S',β',_,rfl,?_,td (yo w) hold L (yn ..) (fun b hb=>tO w w' _ _ _ _ _ b hb) hw hh,fun sz hsz=>by cases hsz⟩;simp only[VR,bj];exact⟨[.agg #[u0,u1,u2,u3],.int .i64 0],rfl,_,_,rfl,⟨[u0,u1,u2,u3],rfl,hus⟩,_,_,rfl,rfl,rfl⟩
   | pan v h'=>
    obtain⟨S',β',u,rfl,hu,L⟩:=hp;refine⟨(kk _ _ _ L).1,(kk _ _ _ L).2,.inr ?_⟩;unfold ym at hr |-;split at hr
    ·rename_i heq;cases heq
    ·rename_i t' k' n h'' heq;cases heq;cases hb:(Nat.beq t' 39&&decide (k'=IntKind.i64))with
     |false=>rw[hb]at hr;exact absurd rfl hr
     |true=>
      simp only[Po,Pt]at hb;obtain⟨hb1,rfl⟩:=hb
      have:=PI hb1
      subst this;simp only[VR]at hu;obtain⟨u',rfl,rfl⟩:=hu;refine⟨n,rfl,S',β',_,rfl,?_,td (yo w) hold L (yn ..) (fun b hb=>tO w w' _ _ _ _ _ b hb) hw hh,fun sz hsz=>by cases hsz⟩;simp only[VR,bj];refine⟨[.agg #[.int .i64 0,.int .i64 0,.slice none 0 0,.slice none 0 0],.int .i64 n],rfl,_,_,rfl,⟨[.int .i64 0,.int .i64 0,.slice none 0 0,.slice none 0 0],rfl,_,_,rfl,rfl,_,_,rfl,rfl,_,_,rfl,?_,_,_,rfl,?_,rfl⟩,_,_,rfl,rfl,rfl⟩
      ·exact⟨none,0,rfl,Pw _,fun _=>rfl,fun q hq=>by cases hq⟩
      ·exact⟨none,0,rfl,Pw _,fun _=>rfl,fun q hq=>by cases hq⟩
    ·exact absurd rfl hr
 rcases args with _|⟨f,_|⟨f2,r⟩⟩
 ·exact absurd rfl hr
 ·exact key _ rfl
 ·exact absurd rfl hr
def L6(e:AV)(es:List AV):cN (wo Tryz.f124.ntmps t8) (da 0) Tryz.f124 (some 3) [.sl (e:: es)]=ae (af (cQ T 23 (.sl []) (.sl (e:: es)))) fun v=>ae (af (some v)) M.pure:=by kernel_rfl
def L8:cN (wo Tryz.f124.ntmps t8) (da 0) Tryz.f124 (some 3) [.hn]=ae (af (some (.sl []))) M.pure:=by kernel_rfl
def L9(l off:Nat):cN (wo Tryz.f124.ntmps t8) (da 0) Tryz.f124 (some 3) [.hs l off 0 1 false]=ae (af (cQ T 23 (.sl []) (.hs l off 0 1 false))) fun v=>ae (af (some v)) M.pure:=by kernel_rfl
def Ma(l off:Nat):cQ T 23 (.sl []) (.hs l off 0 1 false)=some (.sl []):=by rfl
def KH(call:FuncId->List AV->M AV)(args:List AV)(h:Hp)(S:aE)(β:List bT)(w:World)(vs:List Value)(hr:fe T 23 call args h≠.fail)(hg:pF S β h w)(hw:Wf S w)(hh:ck S β w h)(hv:bj S β args vs):
  Calls Tryz.prog 124 vs.toArray w (dt (some 3) S β h w (fe T 23 call args h)):=by
 have key:∀es,args=[.sl es]->Calls Tryz.prog 124 vs.toArray w (dt (some 3) S β h w (fe T 23 call args h)):=by
  rintro es rfl;exact (kZ (cx:=wo Tryz.f124.ntmps t8) (own:=some 3) (E:=fun es h=>fe T 23 call [.sl es] h) tok (nZ _ _) (ul _ _) Tryz.func124 rfl (fun h=>by rfl) (fun e es h=>by rw[L6];exact congrFun (yL _) h) (fun h=>by rw[L8];rfl) (fun l off h=>by rw[L9,Ma];rfl) hr hg hw hh hv).1
 unfold fe at hr;split at hr
 ·exact key _ rfl
 ·exact absurd rfl hr
end Go.Proofs.YtihmmkncokjbaaaGreatDoor
namespace Go.Proofs.YtihmmkncokjbaaaGreatDoor
open Go Go.Av Go.RowKit Go.Shelf
attribute [local go_sem] Oper.semAt_some
abbrev dz:=ByteArray×Int×(Option Addr×Nat×Nat)
def dz.k(x:dz):Value:=.int .i64 x.2.1
def dz.f(x:dz):Value:=.slice x.2.2.1 x.2.2.2.1 x.2.2.2.2
def CS(x:dz):Value:=.agg #[.string x.1,x.k,x.f]
def back(zs:List dz)(k:Nat):List (Nat×dz):=(List.range k).map fun j=>(zs.length-1-j,zs[zs.length-1-j]?.getD default)
def sG(zs:List dz)(k:Nat):back zs (k+1)=back zs k++[(zs.length-1-k,zs[zs.length-1-k]?.getD default)]:=by simp[back,List.range_succ]
def vX(zs:List dz)(k:Nat):(back zs k).length=k:=by simp[back]
def pZ(W:World)(b off:Nat)(zs:List dz):Prop:=∀j,j<zs.length->W.cell? ⟨b,off+j*3,none⟩=some (.string (zs[j]?.getD default).1)/\W.cell? ⟨b,off+j*3+1,none⟩=some (zs[j]?.getD default).k/\W.cell? ⟨b,off+j*3+2,none⟩=some (zs[j]?.getD default).f
def pZ.below{n₀:Nat}{A B:World}(h:Below n₀ A B){b off:Nat}(hb:b<n₀){zs:List dz}(c:pZ A b off zs):pZ B b off zs:=fun j hj=>by
 obtain⟨h1,h2,h3⟩:=c j hj;exact⟨(h.cell (p:=⟨b,_,none⟩) hb).trans h1,(h.cell (p:=⟨b,_,none⟩) hb).trans h2,(h.cell (p:=⟨b,_,none⟩) hb).trans h3⟩
set_option maxRecDepth 100000 in
set_option maxHeartbeats 2000000 in
def Kt(F:Fence)(n:Nat)(h7:F.fn 203)(hro:F.round=none)(hn:1<=n)(l Bs n₀ b off cap:Nat)(zs:List dz)(hreach:zs.length<=1000000000)(hb:b<n₀)(hBn:Bs<n₀)(J Jx:List (Nat×dz)->World->Prop)
  (hY:∀pre x W,J pre W->pre.length<zs.length->YieldAt F (n-1) Tryz.prog l #[.int .i64 (x.1:Int),CS x.2] W fun e W'=>
   (e= .returned (.bool true)/\J (pre++[x]) W'/\Below n₀ W W')\/(e= .returned (.bool false)/\Jx (pre++[x]) W'))
  (W:World) (hBs:W.cell? ⟨Bs,0,none⟩=some (.slice (some ⟨b,off,none⟩) zs.length cap)) (hc:pZ W b off zs) (h0:J [] W):
  CallsIn F n Tryz.prog 203 #[.func (.yield l) #[] #[],.pointer (some ⟨Bs,0,none⟩)] W fun e W'=>(∃v,e= .returned v)/\
   ((∃ys,ys=back zs zs.length/\J ys W')\/(∃pre,(∃k,k<=zs.length/\pre=back zs k)/\Jx pre W')):=by
 refine callsIn_of_wp Tryz.func203 rfl h7 ?_ hro;simp only[Tryz.ntmps203,Q3,PW,Qa,Nat.reduceAdd,Nat.reduceSub,Ru,Rw,RO,RA,P7,Qb]
 gi_wp2
 gi_loopw [3] (fun i wr=>∃k:Nat,k<=zs.length/\i= .int .i64 ((zs.length:Int)-1-k)/\J (back zs k) wr/\Below n₀ W wr)
  (fun i _=>(intOf i+1).toNat)
 case atStart=>exact⟨0,P8 _,by simp,h0,Below.refl _ _⟩
 case round=>
  obtain⟨k,hk,rfl,hJs,hnx⟩:=hrel;have hbs:wr.cell? ⟨Bs,0,none⟩=some (.slice (some ⟨b,off,none⟩) zs.length cap):=(hnx.cell (p:=⟨Bs,0,none⟩) hBn).trans hBs;by_cases hlt:k<zs.length
  ·obtain⟨fn,tmps,assign,body,hy,hR⟩:=hY _ (zs.length-1-k,zs[zs.length-1-k]?.getD default) wr hJs (by rw[vX];exact hlt);dsimp only at hy;obtain⟨m,hm⟩:∃m:Nat,(zs.length:Int)-1-k=m:=⟨zs.length-1-k,by omega⟩;have hm':zs.length-1-k=m:=by omega
   rw[hm']at hy hR;rw[hm];obtain⟨c1,c2,c3⟩:=(hc.below hnx hb) m (by omega);generalize hz:zs[m]?.getD default=z at hy hR c1 c2 c3;obtain⟨z1,z2,z3,z4,z5⟩:=z;have hml:m<zs.length:=by omega
   simp only[CS,dz.k,dz.f]at hy c2 c3
   gi_wp2
   refine hR.mono ?_;rintro e W3 (⟨rfl,hJ3,hk3⟩|⟨rfl,hJx3⟩)
   ·gi_wp2
    go_roundw
    case rel=>exact⟨k+1,by omega,by congr 1;omega,by rw[sG,hm',hz];exact hJ3,hnx.trans hk3⟩
    case measure=>simp[intOf]<;>omega
   ·gi_wp2
    refine bodyPost_ret (results_none rfl _ _ _) rfl ?_;exact⟨⟨_,rfl⟩,.inr ⟨_,⟨k+1,by omega,by rw[sG,hm',hz]⟩,hJx3⟩⟩
  ·obtain rfl:k=zs.length:=by omega
   gi_wp2
   go_end0
   exact⟨⟨_,rfl⟩,.inl ⟨_,rfl,hJs⟩⟩
set_option maxRecDepth 100000 in
set_option maxHeartbeats 1000000 in
def zu(F:Fence)(n:Nat)(h7:F.fn 203)(hro:F.round=none)(l Bs:Nat)(p:Option Addr)(cap:Nat)(J:List (Nat×dz)->World->Prop)(W:World)(hBs:W.cell? ⟨Bs,0,none⟩=some (.slice p 0 cap))(h0:J [] W):
  CallsIn F n Tryz.prog 203 #[.func (.yield l) #[] #[],.pointer (some ⟨Bs,0,none⟩)] W fun e W'=>(∃v,e= .returned v)/\J [] W':=by
 refine callsIn_of_wp Tryz.func203 rfl h7 ?_ hro;simp only[Tryz.ntmps203,Q3,PW,Qa,Nat.reduceAdd,Nat.reduceSub,Ru,Rw,RO,RA,P7,Qb]
 gi_wp2
 gi_loopw [3] (fun i wr=>i= .int .i64 (-1)/\J [] wr) (fun _ _=>0)
 case atStart=>exact⟨rfl,h0⟩
 case round=>
  obtain⟨rfl,hJs⟩:=hrel
  gi_wp2
  go_end0
  exact⟨⟨_,rfl⟩,hJs⟩
set_option maxHeartbeats 1000000 in
def MA(F:Fence)(n:Nat)(h5:F.fn 154)(hro:F.round=none)(a:Option Addr)(len cap:Nat)(w:World):
  CallsIn F n Tryz.prog 154 #[.slice a len cap] w fun e w'=>e= .returned (.func (.func 203) #[] #[.pointer (some ⟨w.heap.size,0,none⟩)])/\w'=w.alloc (.cells #[.slice a len cap] 23):=by
 refine callsIn_of_wp Tryz.func154 rfl h5 ?_ hro;simp only[Tryz.ntmps154,Q3,PW,Qa,Nat.reduceAdd,Nat.reduceSub,Ru,Rw,RO,RA,P7,Qb]
 gi_wp2
 go_ret
 exact⟨rfl,rfl⟩
def mT(n₀:Nat)(W:World)(sv:Value)(zs:List dz):Prop:=
 (zs=[]/\∃p cap,sv= .slice p 0 cap)\/∃b off cap,sv= .slice (some ⟨b,off,none⟩) zs.length cap/\b<n₀/\pZ W b off zs
theorem mT.below{n₀:Nat}{A B:World}(h:Below n₀ A B){sv:Value}{zs:List dz}:mT n₀ A sv zs->mT n₀ B sv zs
 |.inl e=>.inl e
 |.inr ⟨b,off,cap,e,hb,hc⟩=>.inr ⟨b,off,cap,e,hb,hc.below h hb⟩
theorem mT.mono{n n':Nat}(h:n<=n'){W:World}{sv:Value}{zs:List dz}:mT n W sv zs->mT n' W sv zs
 |.inl e=>.inl e
 |.inr ⟨b,off,cap,e,hb,hc⟩=>.inr ⟨b,off,cap,e,Qc hb h,hc⟩
def FB(F:Fence)(n:Nat)(h8:F.fn 203)(hro:F.round=none)(hn:1<=n)(Bs:Nat)(sv:Value)(zs:List dz)(hreach:zs.length<=1000000000)(w:World)(hBs:Bs<w.heap.size)(hc:w.cell? ⟨Bs,0,none⟩=some sv)(hI:mT w.heap.size w sv zs):
  SeqStopsK F n Tryz.prog 203 #[.pointer (some ⟨Bs,0,none⟩)] (fun x:Nat×dz=>#[Value.int .i64 (x.1:Int),CS x.2]) (Below w.heap.size) (fun ys=>ys=back zs zs.length)
   (fun pre=>∃k,k<=zs.length/\pre=back zs k) zs.length w:=fun l J Jx W hW _ _ hY h0=>by
 have hc':=(hW.cell (p:=⟨Bs,0,none⟩) hBs).trans hc;rcases hI.below hW with⟨rfl,p,cap,rfl⟩|⟨b,off,cap,rfl,hb,hcs⟩
 ·exact (zu F n h8 hro l Bs p cap J W hc' h0).mono fun e W' ⟨he,hj⟩=>⟨he,.inl ⟨_,rfl,hj⟩⟩
 ·exact Kt F n h8 hro hn l Bs w.heap.size b off cap zs hreach hb hBs J Jx hY W hc' hcs h0
def ou(zs:List dz)(x:ByteArray):Option dz:=zs.reverse.find? fun z=>decide (z.1=x)
def uI(zs:List dz)(x:ByteArray)(z0 z1:Value):Value:=match ou zs x with
 |some z=>.tuple #[.agg #[z.k,z.f],.bool true]
 |none=>.tuple #[.agg #[z0,z1],.bool false]
def vY(zs:List dz){k:Nat}(hk:k<=zs.length):(back zs k).map (·.2)=zs.reverse.take k:=by
 apply List.ext_getElem
 ·simp[back,hk]
 ·intro i h1 h2;have hi:i<k:=by simpa [back]using h1
  have h3:zs.length-1-i<zs.length:=by omega
  simp[back,h3]
def xj{zs:List dz}{x:ByteArray}(h:∀p∈back zs zs.length,p.2.1≠x):ou zs x=none:=by
 unfold ou;rw[List.find?_eq_none];intro z hz;have hm:=vY zs (Pw _);rw[QS (by simp)]at hm;rw[<- hm]at hz;obtain⟨p,hp,rfl⟩:=QU.1 hz;simpa using h p hp
def xk{zs:List dz}{x:ByteArray}{k:Nat}(hk:k<=zs.length){ini:List (Nat×dz)}{last:Nat×dz}(e1:back zs k=ini++[last])(e2:∀p∈ini,p.2.1≠x)(e3:last.2.1=x):ou zs x=some last.2:=by
 have hm:=vY zs hk;rw[e1,Sz]at hm;unfold ou;rw[<- List.take_append_drop k zs.reverse,<- hm,Qq,List.find?_append];have h1:(ini.map (·.2)).find? (fun z=>decide (z.1=x))=none:=by
  rw[List.find?_eq_none];intro z hz;obtain⟨p,hp,rfl⟩:=QU.1 hz;simpa using e2 p hp
 rw[h1];simp[e3]
def cT(W:World)(B:Nat)(t:TypeId)(cs:Array Value):Prop:=W.heap[B]? = some (.cells cs t (0,0))
def cT.lt{W:World}{B:Nat}{t:TypeId}{cs:Array Value}(h:cT W B t cs):B<W.heap.size:=(Qg.1 h).1
def cT.cell{W:World}{B:Nat}{t:TypeId}{cs:Array Value}(h:cT W B t cs)(o:Nat):W.cell? ⟨B,o,none⟩=cs[o]?:=by simp[World.cell?,show W.heap[B]? = _ from h]
def cT.frozen{W:World}{B:Nat}{t:TypeId}{cs:Array Value}(h:cT W B t cs)(o:Nat):W.frozen? ⟨B,o,none⟩=false:=by simp[World.frozen?,show W.heap[B]? = _ from h]
def cT.new(W:World)(t:TypeId)(cs:Array Value):cT (W.alloc (.cells cs t)) W.heap.size t cs:=World.alloc_heap_new W _
def cT.kept{W W':World}{row:Option Nat}{B:Nat}{t:TypeId}{cs:Array Value}(h:cT W B t cs)(hg:W.grownBy W' row)(hne:some B≠row):cT W' B t cs:=(hg.block B h.lt hne).trans h
def cT.alloc{W:World}{B:Nat}{t:TypeId}{cs:Array Value}(h:cT W B t cs)(o:Obj):cT (W.alloc o) B t cs:=h.kept (World.grownBy_alloc W o none) (by simp)
def cT.put{W:World}{B:Nat}{t:TypeId}{cs:Array Value}(h:cT W B t cs){l:Nat}{o:Obj}(o':Obj)(hl:W.heap[l]? = some o)(ho:o.isCells=false):cT (W.putObj l o') B t cs:=
 h.kept (grownBy_putObj' W l o') (fun e=>by cases e;rw[show W.heap[B]? = _ from h]at hl;cases hl;cases ho)
def sg(W:World)(b o:Nat)(v:Value):W.grownBy (W.setCell ⟨b,o,none⟩ v) (some b):=
 ⟨rfl,rfl,rfl,(KeepsWalks.setCell W _ v).size,fun k _ hk=>Below.heap_setCell _ _ _ k (fun e=>hk (by rw[e]))⟩
def cT.other{W:World}{B B' o:Nat}{t:TypeId}{cs:Array Value}(h:cT W B t cs)(hne:B≠B')(u:Value):cT (W.setCell ⟨B',o,none⟩ u) B t cs:=h.kept (sg W B' o u) (fun e=>hne (by cases e;rfl))
def cT.set{W:World}{B:Nat}{t:TypeId}{cs:Array Value}(h:cT W B t cs)(o:Nat)(v:Value):cT (W.setCell ⟨B,o,none⟩ v) B t (cs.setIfInBounds o v):=by
 obtain⟨hlt,hk⟩:=Qg.1 h;show (W.heap.modify B _)[B]? = _;rw[QA (by rw[Array.size_modify];exact hlt),Array.getElem_modify_self,hk];rfl
def EJ{x y:ByteArray}(h:(x.toList== y.toList)=true):x=y:=by
 have:=PR.1 h
 rw[ByteArray.toList_eq,ByteArray.toList_eq]at this;exact ByteArray.ext (QW this)
def EK{x y:ByteArray}(h:(x.toList== y.toList)=false):x≠y:=by
 rintro rfl;simp at h
def gJ{β:Type}(B:Nat)(t:TypeId)(f:β->Array Value):Own (fun s W=>cT W B t (f s)):=fun s X Y row hs hg hrow=>
 hs.kept hg (fun e'=>by obtain⟨o,ho,hc⟩:=hrow B e'.symm;rw[show X.heap[B]? = _ from hs]at ho;cases ho;cases hc)
set_option maxRecDepth 100000 in
set_option maxHeartbeats 4000000 in
def Hz(F:Fence)(n:Nat)(h3:F.fn 112)(h5:F.fn 154)(h7:F.fn 203)(hro:F.round=none)(hn:3<=n)(a:Option Addr)(len cap:Nat)(x:ByteArray)(zs:List dz)(hreach:zs.length<=1000000000)(w:World)(hI:mT w.heap.size w (.slice a len cap) zs):
  CallsIn F n Tryz.prog 112 #[.slice a len cap,.string x] w fun e W'=>e= .returned (uI zs x (.int .i64 0) (.slice none 0 0))/\Below w.heap.size w W':=by
 have h1:1<=n:=by omega
 refine callsIn_of_wp_marks Tryz.func112 rfl h3 ?_ hro;simp only[Tryz.ntmps112,Q3,PW,Qa,Nat.reduceAdd,Nat.reduceSub,Ru,Rw,RO,RA,P7,Qb]
 gi_wp2_with (gi_at_call 154;refine (MA F (n-1) h5 hro _ _ _ _).mono ?_;rintro e w' ⟨rfl,rfl⟩)
 have b0:=(((cT.new w 9 #[.string x]).alloc (.cells #[.int .i64 0,.slice none 0 0] 35)).alloc (.cells #[.bool false] 4)).alloc (.cells #[.slice a len cap] 23);have b1:=((cT.new (w.alloc (.cells #[.string x] 9)) 35 #[.int .i64 0,.slice none 0 0]).alloc (.cells #[.bool false] 4)).alloc (.cells #[.slice a len cap] 23);have b2:=(cT.new ((w.alloc (.cells #[.string x] 9)).alloc (.cells #[.int .i64 0,.slice none 0 0] 35)) 4 #[.bool false]).alloc (.cells #[.slice a len cap] 23);have b3:=cT.new (((w.alloc (.cells #[.string x] 9)).alloc (.cells #[.int .i64 0,.slice none 0 0] 35)).alloc (.cells #[.bool false] 4)) 23 #[.slice a len cap];simp only[World.size_alloc]at b1 b2 b3;have hB0:Below w.heap.size w ((((w.alloc (.cells #[.string x] 9)).alloc (.cells #[.int .i64 0,.slice none 0 0] 35)).alloc (.cells #[.bool false] 4)).alloc (.cells #[.slice a len cap] 23)):=
  ((((Below.refl _ w).alloc (Pw _) _).alloc (by simp) _).alloc (by simp;omega) _).alloc (by simp;omega) _
 have hsz:((((w.alloc (.cells #[.string x] 9)).alloc (.cells #[.int .i64 0,.slice none 0 0] 35)).alloc (.cells #[.bool false] 4)).alloc (.cells #[.slice a len cap] 23)).heap.size=w.heap.size+4:=by simp
 obtain⟨W0,hW0⟩:∃W0,((((w.alloc (.cells #[.string x] 9)).alloc (.cells #[.int .i64 0,.slice none 0 0] 35)).alloc (.cells #[.bool false] 4)).alloc (.cells #[.slice a len cap] 23))=W0:=⟨_,rfl⟩;rw[hW0]at b0 b1 b2 b3 hB0 hsz |-;clear hW0;refine wpIn_rangeFunc_ownH hro h1 (gf:=203) (lb:=#[.pointer (some ⟨w.heap.size+1+1+1,0,none⟩)]) rfl h7 (enters_of Tryz.func203 (by kernel_rfl) rfl)
  (FB F (n-1) h7 hro (by omega) (w.heap.size+1+1+1) _ zs hreach W0 (by omega) (b3.cell 0) ((hI.below hB0).mono (by omega))) belowK_t (belowK_b (Pw _)) (Below.refl _ _) (fun _=>rfl)
  (fun pre W=>(∀p∈pre,p.2.1≠x)/\(cT W w.heap.size 9 #[.string x]/\cT W (w.heap.size+1) 35 #[.int .i64 0,.slice none 0 0]/\cT W (w.heap.size+1+1) 4 #[.bool false]/\cT W (w.heap.size+1+1+1) 23 #[.slice a len cap])/\Below w.heap.size w W)
  (fun c pre W=>(c= .ret/\∃ini last,pre=ini++[last]/\(∀p∈ini,p.2.1≠x)/\last.2.1=x/\cT W (w.heap.size+1) 35 #[last.2.k,last.2.f]/\cT W (w.heap.size+1+1) 4 #[.bool true])/\Below w.heap.size w W)
  ?hI ?hIx ⟨fun _ h=>(by cases h),⟨b0,b1,b2,b3⟩,hB0⟩
  (fun y a' W=>∃Bx,cT W Bx 37 #[.string y.2.1,y.2.k,y.2.f]/\a'= { tmps:=#[.slice a len cap,.string x,undef,.pointer (some ⟨w.heap.size,0,none⟩),.pointer (some ⟨w.heap.size+1,0,none⟩),.pointer (some ⟨w.heap.size+1+1,0,none⟩),undef,.pointer (some ⟨Bx,0,none⟩),.slice a len cap,.func (.func 203) #[] #[.pointer (some ⟨w.heap.size+1+1+1,0,none⟩)],.int .i64 (y.1:Int),CS y.2,undef,undef,undef,undef,undef,undef,undef],defers:=[] })
  (fun y a' _ X Y row hs hg hr=>by obtain⟨Bx,h2,h3⟩:=hs;exact⟨Bx,gJ Bx 37 (fun(_:Unit)=>#[Value.string y.2.1,y.2.k,y.2.f]) () X Y row h2 hg (fun r e=>(hr r e).2),h3⟩)
  ?assign ?body ?done ?stop
 case hI=>exact OwnFrom.and (ownFrom_pure _ _) (OwnFrom.and (OwnFrom.and (Own.from (gJ _ _ _) _) (OwnFrom.and (Own.from (gJ _ _ _) _) (OwnFrom.and (Own.from (gJ _ _ _) _) (Own.from (gJ _ _ _) _)))) (ownFrom_below (Pw _) (by omega)))
 case hIx=>
  intro c;refine OwnFrom.and (Own.from (fun s A B row hs hg hr=>?_) _) (ownFrom_below (Pw _) (by omega));obtain⟨hc,ini,last,e1,e2,e3,e4,e5⟩:=hs;exact⟨hc,ini,last,e1,e2,e3,gJ _ _ (fun(_:Unit)=>#[last.2.k,last.2.f]) () A B row e4 hg hr,gJ _ _ (fun(_:Unit)=>#[Value.bool true]) () A B row e5 hg hr⟩
 case assign=>
  rintro l pre y W K ⟨hp,⟨r0,r1,r2,r3⟩,hB⟩ hK;obtain⟨yi,y1,y2,y3,y4,y5⟩:=y;simp only[CS,dz.k,dz.f]at hK |-
  gi_wp2
  exact hK _ _ ((KeepsOthers.alloc _ _).from _) ((Below.refl _ W).alloc (by have:=r3.lt;omega) _) ⟨hp,⟨r0.alloc _,r1.alloc _,r2.alloc _,r3.alloc _⟩,hB.alloc hB.size _⟩ ⟨W.heap.size,cT.new W _ _,rfl⟩
 case body=>
  rintro l pre y a' W hl ⟨r,hr⟩ ⟨hp,⟨r0,r1,r2,r3⟩,hB⟩ ⟨Bx,rx,rfl⟩ hlt;obtain⟨yi,y1,y2,y3,y4,y5⟩:=y;simp only[CS,dz.k,dz.f]at rx |-;have c0:=r0.cell 0;have wo:=rx.cell 0;have cx1:=rx.cell 1;have cx2:=rx.cell 2;have f10:=r1.frozen 0;have f11:=r1.frozen 1;have f20:=r2.frozen 0;have c10:=r1.cell 0;have c11:=r1.cell 1;have c20:=r2.cell 0;simp at c0 wo cx1 cx2 c10 c11 c20
  gi_wp2
  ·have hx:y1=x:=EJ (by assumption);have r1':=((r1.set 0 (.int .i64 y2)).set 1 (.slice y3 y4 y5)).other (B':=w.heap.size+1+1) (o:=0) (by omega) (.bool true);have r2':=((r2.other (B':=w.heap.size+1) (o:=0) (by omega) (.int .i64 y2)).other (B':=w.heap.size+1) (o:=1) (by omega) (.slice y3 y4 y5)).set 0 (.bool true);exact⟨(((KeepsOthers.setCell _ _ _).trans (KeepsOthers.setCell _ _ _)).trans (KeepsOthers.setCell _ _ _)).from _,⟨rfl,pre,(yi,y1,y2,y3,y4,y5),rfl,hp,hx,r1',r2'⟩,
    ((hB.setCell (p:=⟨w.heap.size+1,0,none⟩) (by simp) _).setCell (p:=⟨w.heap.size+1,1,none⟩) (by simp) _).setCell (p:=⟨w.heap.size+1+1,0,none⟩) (by simp;omega) _⟩
  ·have hx:y1≠x:=EK (by assumption);exact⟨KeepsFrom.refl _ _,Below.refl _ _,fun p hp'=>(PZ.1 hp').elim (hp p) (fun e=>by simp at e;subst e;exact hx),⟨r0,r1,r2,r3⟩,hB⟩
 case done=>
  rintro D ys W hD rfl ⟨hne,⟨r0,r1,r2,r3⟩,hB⟩ hK;have f10:=r1.frozen 0;have f11:=r1.frozen 1;have f20:=r2.frozen 0;have c10:=r1.cell 0;have c11:=r1.cell 1;have c20:=r2.cell 0;simp at c10 c11 c20
  gi_wp2
  have r1':=((r1.set 0 (.int .i64 0)).set 1 (.slice none 0 0)).other (B':=w.heap.size+1+1) (o:=0) (by omega) (.bool false);have r2':=((r2.other (B':=w.heap.size+1) (o:=0) (by omega) (.int .i64 0)).other (B':=w.heap.size+1) (o:=1) (by omega) (.slice none 0 0)).set 0 (.bool false);have hB':=((hB.setCell (p:=⟨w.heap.size+1,0,none⟩) (by simp) (.int .i64 0)).setCell (p:=⟨w.heap.size+1,1,none⟩) (by simp) (.slice none 0 0)).setCell (p:=⟨w.heap.size+1+1,0,none⟩) (by simp;omega) (.bool false);have hK':=(((KeepsOthers.setCell W ⟨w.heap.size+1,0,none⟩ (.int .i64 0)).trans (KeepsOthers.setCell _ ⟨w.heap.size+1,1,none⟩ (.slice none 0 0))).trans (KeepsOthers.setCell _ ⟨w.heap.size+1+1,0,none⟩ (.bool false))).same D _ hK rfl;refine⟨by simp,.inl ⟨_,_,rfl,run_takeDeferred hK',?_⟩⟩;have q10:=(r1'.put (.deferred none) hK' rfl).cell 0;have q11:=(r1'.put (.deferred none) hK' rfl).cell 1;have q20:=(r2'.put (.deferred none) hK' rfl).cell 0;simp at q10 q11 q20;refine⟨.tuple #[.agg #[.int .i64 0,.slice none 0 0],.bool false],?_,?_,hB'.trans (belowK_b (w:=w) (Pw _) _ D _ _ (by omega) hK' rfl rfl)⟩
  rotate_left
  ·unfold uI;rw[xj hne]
  ·simp[results,Tryz.f112,go_sem,q10,q11,q20]
 case stop=>
  rintro D c pre W hD ⟨k,hk,rfl⟩ ⟨⟨rfl,ini,last,e1,e2,e3,r1,r2⟩,hB⟩ hK
  gi_wp2
  refine⟨by simp,.inl ⟨_,_,rfl,run_takeDeferred hK,?_⟩⟩;have q10:=(r1.put (.deferred none) hK rfl).cell 0;have q11:=(r1.put (.deferred none) hK rfl).cell 1;have q20:=(r2.put (.deferred none) hK rfl).cell 0;simp at q10 q11 q20;refine⟨.tuple #[.agg #[last.2.k,last.2.f],.bool true],?_,?_,hB.trans (belowK_b (w:=w) (Pw _) W D _ _ (by omega) hK rfl rfl)⟩
  rotate_left
  ·unfold uI;rw[xk hk e1 e2 e3]
  ·simp[results,Tryz.f112,go_sem,q10,q11,q20]
end Go.Proofs.YtihmmkncokjbaaaGreatDoor
namespace Go.Proofs.YtihmmkncokjbaaaGreatDoor
open Go Go.Av Go.RowKit
set_option maxRecDepth 100000
def Ln(S:aE)(β:List bT)(y:List UInt8×Int×List AV)(z:dz):Prop:=z.1.data.toList=y.1/\z.2.1=y.2.1/\VR S β (.sl y.2.2) z.f
def kN(S:aE)(β:List bT):List (List UInt8×Int×List AV)->List dz->Prop
 |[],zs=>zs=[]
 |y:: l,zs=>∃z r,zs=z:: r/\Ln S β y z/\kN S β l r
theorem kN.length{S:aE}{β:List bT}:{l:List (List UInt8×Int×List AV)} ->{zs:List dz} ->kN S β l zs->zs.length=l.length
 |[],_,h=>by simp only[kN]at h;simp[h]
 |y:: l,zs,h=>by
  simp only[kN]at h;obtain⟨z,r,rfl,_,h⟩:=h;simp[kN.length h]
def Cj{e:AV}{y:List UInt8×Int×List AV}(h:wL e=some y):e= .agg [.str y.1,.int .i64 y.2.1,.sl y.2.2]:=by
 unfold wL at h;split at h
 ·cases h;rfl
 ·cases h
theorem Mi{S:aE}{β:List bT}{b sz:Nat}:(es:List AV)->(off:Nat)->(l:List (List UInt8×Int×List AV))->cf S β es b off sz->gB es=some l->
  ∃zs:List dz,kN S β l zs/\∀j,j<zs.length->S b (off+j*3)=some (.string (zs[j]?.getD default).1)/\S b (off+j*3+1)=some (zs[j]?.getD default).k/\S b (off+j*3+2)=some (zs[j]?.getD default).f
 |[],off,l,_,h=>by
  simp only[gB,Pn]at h;subst h;exact⟨[],rfl,fun j hj=>by simp at hj⟩
 | e :: es,off,l,he,h=>by
  simp only[gB]at h;cases h1:wL e with
  |none=>rw[h1]at h;cases h
  | some y=>
   cases h2:gB es with
   |none=>rw[h1,h2]at h;cases h
   | some l'=>
    rw[h1,h2]at h;simp only[Pn]at h;subst h;simp only[cf]at he;obtain⟨⟨v,hv,hs,hc⟩,he⟩:=he
    have:=Cj h1
    subst this;simp only[VR,bj]at hv;obtain⟨vs,rfl,_,_,rfl,⟨x,rfl,hx⟩,_,_,rfl,rfl,v3,_,rfl,hv3,rfl⟩:=hv;obtain⟨p,cap,hp,hq1,hq2,hq3⟩:=hv3;subst hp;have hsz:sz=3:=by rw[<- hs];rfl
    subst hsz;obtain⟨zs,hR,hZ⟩:=Mi es (off+3) l' he h2;have c0:=hc 0 _ rfl;have c1:=hc 1 _ rfl;have c2:=hc 2 _ rfl;refine⟨(x,y.2.1,(p,y.2.2.length,cap)):: zs,⟨_,_,rfl,⟨hx,rfl,by simp only[dz.f,VR];exact⟨p,cap,rfl,hq1,hq2,hq3⟩⟩,hR⟩,fun j hj=>?_⟩;cases j with
    |zero=>exact⟨by simpa using c0,by simpa [dz.k]using c1,by simpa [dz.f]using c2⟩
    |succ j=>
     have:=hZ j (by simpa using hj)
     rw[show off+3+j*3=off+(j+1)*3 by omega]at this;simpa using this
theorem nr{S:aE}{β:List bT}{x:ByteArray}{name:List UInt8}(hx:x.data.toList=name):{l:List (List UInt8×Int×List AV)} ->{zs:List dz} ->kN S β l zs->
  (bW (fun z=>z.1== name) l=none/\bW (fun z:dz=>decide (z.1=x)) zs=none)\/∃y z,bW (fun z=>z.1== name) l=some y/\bW (fun z:dz=>decide (z.1=x)) zs=some z/\Ln S β y z
 |[],zs,h=>by simp only[kN]at h;subst h;exact .inl ⟨rfl,rfl⟩
 | y :: l,zs,h=>by
  simp only[kN]at h;obtain⟨z,r,rfl,hz,h⟩:=h;rcases nr hx h with⟨h1,h2⟩|⟨y',z',h1,h2,h3⟩
  ·have he:(y.1== name)=decide (z.1=x):=by
    rw[<- hz.1,<- hx];by_cases h:z.1=x
    ·subst h;simp
    ·have h':z.1.data.toList≠x.data.toList:=fun h'=>h (ByteArray.ext (QW h'));rw[RF h];exact PP.2 h'
   simp only[bW,h1,h2,he];cases decide (z.1=x)with
   |true=>exact .inr ⟨y,z,rfl,rfl,hz⟩
   |false=>exact .inl ⟨rfl,rfl⟩
  ·simp only[bW,h1,h2];exact .inr ⟨_,_,rfl,rfl,h3⟩
def KG(call:FuncId->List AV->M AV)(args:List AV)(h:Hp)(S:aE)(β:List bT)(w:World)(vs:List Value)(hr:lW call args h≠.fail)(hg:pF S β h w)(hw:Wf S w)(hh:ck S β w h)(hv:bj S β args vs):
  Calls Tryz.prog 112 vs.toArray w (dt none S β h w (lW call args h)):=by
 unfold lW at hr |-;split at hr
 ·rename_i es name;cases hl:gB es with
  |none=>rw[hl]at hr;exact absurd rfl hr
  | some l=>
   rw[hl]at hr;simp only at hr |-;cases hc:decide (l.length<=1000000000)with
   |false=>rw[hc]at hr;exact absurd rfl hr
   | true=>
    simp only[Pq];simp only[bj,VR]at hv;obtain⟨_,_,rfl,⟨a,cap,rfl,hle,hnil,hq⟩,_,_,rfl,⟨x,rfl,hx⟩,rfl⟩:=hv;have hlen:∀(es:List AV)(l:List (List UInt8×Int×List AV)),gB es=some l->l.length=es.length:=by
     intro es
     induction es with
     |nil=>intro l h;simp only[gB,Pn]at h;subst h;rfl
     | cons e es ih=>
      intro l h;simp only[gB]at h;split at h
      ·rename_i h2;cases h;simp[ih _ h2]
      ·cases h
    have hll:=hlen es l hl;have hz:∃zs:List dz,kN S β l zs/\mT w.heap.size w (.slice a zs.length cap) zs:=by
     cases es with
     |nil=>
      simp only[gB,Pn]at hl;subst hl;exact⟨[],rfl,.inl ⟨rfl,a,cap,rfl⟩⟩
     | cons e es=>
      cases a with
      |none=>have:=hnil rfl;subst this;simp at hle
      | some q=>
       obtain⟨hs,sz,hE⟩:=hq q rfl;have hcap:0<cap:=by simp at hle;omega
       obtain⟨b,off,sp⟩:=q;have hs':sp=none:=hs hcap;subst hs';obtain⟨zs,hR,hZ⟩:=Mi (e:: es) off l hE hl;refine⟨zs,hR,.inr ⟨b,off,cap,rfl,?_,fun j hj=>?_⟩⟩
       ·have h0:=(hZ 0 (by rw[hR.length,hll];simp)).1;exact hw.lt h0
       ·obtain⟨h1,h2,h3⟩:=hZ j hj;exact⟨hw _ _ _ h1,hw _ _ _ h2,hw _ _ _ h3⟩
    obtain⟨zs,hR,hF⟩:=hz;have hzl:=hR.length;rw[show es.length=zs.length by omega];refine (callsIn_wide (n:=3)).1 ((Hz Fence.wide 3 trivial trivial trivial rfl (by omega) a zs.length cap x zs (by have:=QQ hc;omega) w hF).mono ?_);rintro e w' ⟨rfl,hb⟩;refine dH hw hh hb uO ?_;unfold uI zx ou;rw[<- sk];rcases nr hx hR with⟨h1,h2⟩|⟨y,z,h1,h2,h3⟩
    ·rw[h1,h2];simp only[VR,bj];exact⟨_,rfl,_,_,rfl,⟨_,rfl,_,_,rfl,rfl,_,_,rfl,⟨none,0,rfl,Pw _,fun _=>rfl,fun q hq=>by cases hq⟩,rfl⟩,_,_,rfl,rfl,rfl⟩
    ·rw[h1,h2];obtain⟨_,h4,h5⟩:=h3;simp only[VR,bj];exact⟨_,rfl,_,_,rfl,⟨_,rfl,_,_,rfl,by rw[<- h4];rfl,_,_,rfl,h5,rfl⟩,_,_,rfl,rfl,rfl⟩
 ·exact absurd rfl hr
def NE{α:Type}{f k:Nat}{x:α}{o:Option α}{y:α}(h:(bif Nat.beq f k then some x else o)=some y):(f=k/\x=y)\/o=some y:=by
 cases hb:Nat.beq f k with
 |true=>rw[hb]at h;exact .inl ⟨PI hb,by simpa using h⟩
 |false=>rw[hb]at h;exact .inr h
def EG{α:Type}{f k:Nat}{x y:α}{o:Option α}{P:Prop}(h1:f=k->x=y->P)(h2:o=some y->P)(h:(bif Nat.beq f k then some x else o)=some y):P:=(NE h).elim (fun h=>h1 h.1 h.2) h2
def NK:GoodPg Tryz.prog pg where
 tok:=tok
 funcs:=Fc
 other:=by
  intro f E hE call hC args h S β w vs hr hg hw hh hv;have h0:other f=some E:=hE;unfold other at h0;revert h0
  repeat' refine EG ?_ ?_
  all_goals first
   |(intro h0;cases h0;done)
   |(rintro rfl rfl;exact absurd rfl hr)
   |(rintro rfl rfl;exact⟨MF call hC args h S β w vs hr hg hw hh hv,by kernel_rfl⟩)
   |(rintro rfl rfl;exact⟨MG call args h S β w vs hr hg hw hh hv,by kernel_rfl⟩)
   |(rintro rfl rfl;exact⟨MH call args h S β w vs hr hg hw hh hv,by kernel_rfl⟩)
   |(rintro rfl rfl;exact⟨MI call args h S β w vs hr hg hw hh hv,by kernel_rfl⟩)
   |(rintro rfl rfl;exact⟨KX call hC args h S β w vs hr hg hw hh hv,by kernel_rfl⟩)
   |(rintro rfl rfl;exact⟨KI call args h S β w vs hr hg hw hh hv,by kernel_rfl⟩)
   |(rintro rfl rfl;exact⟨KJ call args h S β w vs hr hg hw hh hv,by kernel_rfl⟩)
   |(rintro rfl rfl;exact⟨KL call args h S β w vs hr hg hw hh hv,by kernel_rfl⟩)
   |(rintro rfl rfl;exact⟨KM call args h S β w vs hr hg hw hh hv,by kernel_rfl⟩)
   |(rintro rfl rfl;exact⟨KN call args h S β w vs hr hg hw hh hv,by kernel_rfl⟩)
   |(rintro rfl rfl;exact⟨KH call args h S β w vs hr hg hw hh hv,by kernel_rfl⟩)
   |(rintro rfl rfl;exact⟨KG call args h S β w vs hr hg hw hh hv,by kernel_rfl⟩)
 nw:=by
  intro f hf;have h0:(bif Nat.beq f 249 then true else false)=true:=hf;cases hb:Nat.beq f 249 with
  |true=>
   have:=PI hb
   subst this;exact⟨_,rfl,fun call args=>BW _ _ _ _⟩
  |false=>rw[hb]at h0;cases h0
end Go.Proofs.YtihmmkncokjbaaaGreatDoor
namespace Go.Proofs.YtihmmkncokjbaaaGreatDoor
open Go Go.Av Go.ChangeShapes Go.WideShapes Go.ChangeAt Go.RowKit
set_option maxRecDepth 1000000
def NS:ownKnob Tryz.prog.godebug=none:=by kernel_rfl
def star: "*" ++ "errors.errorString" = "*errors.errorString" :=by decide
def rF(u:TypeId)(h:Tryz.prog.typeName? 3 u=some "*errors.errorString"):u=272:=
 typeName_ptr_named (nm:= "errors.errorString") (by rw[star];kernel_rfl) (by kernel_rfl) (by decide) u (by rw[star];exact h)
def Km{W:World}(hL:laidMetH Tryz.prog Rows.stateStaysRow.laid W)(hS:W.ShapedOpen Tryz.prog):GOKw W:=by
 have h0:laidMet Tryz.prog Rows.stateStaysRow.laid W:=hL;have h1:=h0.tail;have h2:=h1.tail;have h3:=h2.tail;have h4:=h3.tail;have hp:=Lib.tabIs_of_head (k:=.u64) (zs:=Lib.pow10Tab) (g:=0) (t:=244) (e:=206) (n:=20) (by kernel_rfl) (by kernel_rfl) (by kernel_rfl) (by kernel_rfl) (by kernel_rfl) (by kernel_rfl) h2;obtain⟨a0,s0,v0,_⟩:=laid_sentinel (g:=3) (ti:=124) (tp:=272) (te:=274) (ts:=9) h3 (by kernel_rfl) (by kernel_rfl) Tryz.underlying124 rF Tryz.underlying272 Tryz.underlying274 rfl rfl Tryz.underlying9 (by kernel_rfl) (by kernel_rfl);obtain⟨a1,s1,v1,_⟩:=laid_sentinel (g:=2) (ti:=124) (tp:=272) (te:=274) (ts:=9) h4 (by kernel_rfl) (by kernel_rfl) Tryz.underlying124 rF Tryz.underlying272 Tryz.underlying274 rfl rfl Tryz.underlying9 (by kernel_rfl) (by kernel_rfl);have hvar:∀ {name:String} {g:Nat} {cs:Array Value},Tryz.prog.globalNamed name=some g->W.var? Tryz.prog name=some cs->∃t fr,W.heap[g]? = some (.cells cs t fr):=by
  intro name g cs hn hv;unfold World.var? at hv;rw[hn]at hv;simp only[Rt]at hv;split at hv
  ·rename_i c t fr hh;simp only[Pn]at hv;subst hv;exact⟨t,fr,hh⟩
  ·cases hv
 have hcell:∀ {g:Nat} {v:Value},(∃t fr,W.heap[g]? = some (.cells #[v] t fr))->W.cell? ⟨g,0,none⟩=some v:=by
  rintro g v ⟨t,fr,hh⟩;simp[World.cell?,hh]
 refine⟨?_,hvar (by kernel_rfl) hp,⟨_,_,hcell (hvar (by kernel_rfl) v1)⟩,⟨_,_,hcell (hvar (by kernel_rfl) v0)⟩⟩;exact cell_of_shapedOpen_int (zero:=#[.int .i64 0]) (t:=3) hS (QQ (by kernel_rfl)) (by kernel_rfl) rfl (by kernel_rfl) (by kernel_rfl) Tryz.underlying3
mutual
def mY:DataW Unit->List Value
 |.lit (.bool b)=>[.bool b]
 |.lit (.int k n)=>[.int k n]
 |.lit (.string s)=>[.string ⟨s.toArray⟩]
 |.agg ps=>EU ps
 |_=>[]
def EU:List (DataW Unit)->List Value
 |[]=>[]
 |d:: ds=>mY d++EU ds
end
abbrev N5:ByteArray:={ data:=#[105,110,118,97,108,105,100,32,115,121,110,116,97,120] }
abbrev N4:ByteArray:={ data:=#[118,97,108,117,101,32,111,117,116,32,111,102,32,114,97,110,103,101] }
noncomputable def low:Nat:=(World.holding Tryz.prog default ⟨#[],#[],[]⟩).heap.size
noncomputable def GE:List (Option (Array Value)):=[some (mY Rows.laid_internal_strconv_uint64pow10).toArray,none,some #[.iface 272 (.pointer (some ⟨low,0,none⟩))],some #[.iface 272 (.pointer (some ⟨low+1,0,none⟩))],
 some (mY Rows.laid_math_bits_deBruijn32tab).toArray,some (mY Rows.laid_math_bits_deBruijn64tab).toArray]
def uT:List Obj->List (Option (Array Value))->List Obj
 |.cells _ t fr:: os,some c:: cs=>.cells c t fr:: uT os cs
 |o:: os,_:: cs=>o:: uT os cs
 |os,[]=>os
 |[],_=>[]
noncomputable def ot(os:Os):World:=
 let w0:=World.holding Tryz.prog os ⟨#[.cells #[.string N5] 274,.cells #[.string N4] 274],#[],[]⟩
 { w0 with heap:=(uT w0.heap.toList GE).toArray }
def Fx(os:Os)(args:Array Value):laidMet Tryz.prog Rows.stateStaysRow.laid ((ot os).forCall (fun _ _=>0) ⟨#[],args,[]⟩).memory:=
 laidMet_of_run3 8 (by kernel_rfl) (by kernel_rfl) (by kernel_rfl)
end Go.Proofs.YtihmmkncokjbaaaGreatDoor
namespace Go.Proofs.YtihmmkncokjbaaaGreatDoor
open Go Go.Av Go.Av.Ap Go.RowKit
set_option maxRecDepth 1000000
section
variable {H:Type} {enc:TypeId×Value->H} {W:World}
theorem lD:reachBytes=140737488351232:=rfl
theorem Ty.lim_mk{k:Int}{fs:List bd}(h2:fs.length<=140737488355328)(h3:∀v∈fs,v.2.Lim):(Ty.mk k fs).Lim:=fun j=>match j with
 |0=>trivial
 |j+1=>⟨h2,fun x hx=>h3 x hx j⟩
theorem ru{N:Nat}(h:Rd enc Tryz.prog W N 35 (fun v:Ty=>v.cells) Ty.Lim):Rd enc Tryz.prog W (N+1) 23 (fun l:List bd=>[aK l]) (fun l=>l.length<=140737488355328/\∀v∈l,v.2.Lim):=
 (lC ((gG Tryz.underlying37 (by kernel_rfl) (bm (oK Tryz.underlying9) rfl (by kernel_rfl:_=1) (bm h rfl (by kernel_rfl:_=2) jd))).map (fun x=>((x.1,x.2.1):bd)) (cells':=fun f=>ab (bw f)) (Ok':=fun f=>f.2.Lim) (fun x=>by simp[Ty.cells_eq]) (fun x h=>h.2.1))
  Tryz.underlying23 (by kernel_rfl:_=3) (by decide) (by kernel_rfl:_=48) (ev:=bw) (lR fun v=>by rw[lk];rfl)).map id (fun l=>by simp[aK,fF]) (fun l h=>⟨by have:=h.1;rw[lD]at this;simp only[id];omega,h.2⟩)
theorem Ga:∀N,Rd enc Tryz.prog W N 35 (fun v:Ty=>v.cells) Ty.Lim
 |0=>.zero
 | N+1=>(gG Tryz.underlying35 (by kernel_rfl) (bm (oJ Tryz.underlying3) rfl (by kernel_rfl:_=1) (bm ((ru (Ga N)).le (RP N)) rfl (by kernel_rfl:_=1) jd))).map (fun x=>Ty.mk x.1 x.2.1)
   (fun x=>by simp[Ty.cells_eq,Ty.kind,Ty.fields]) (fun x h=>Ty.lim_mk h.2.1.1 h.2.1.2)
end
end Go.Proofs.YtihmmkncokjbaaaGreatDoor
namespace Go.Proofs.YtihmmkncokjbaaaGreatDoor
open Go Go.Av Go.Av.Ap Go.RowKit
set_option maxRecDepth 1000000
section
variable {H:Type} {enc:TypeId×Value->H} {W:World}
theorem uY(N:Nat):Rd enc Tryz.prog W N 22 (fun l:List a7=>[strs l]) (fun l=>l.length<=8796093022208):=
 (lC (oK Tryz.underlying9) Tryz.underlying22 (by kernel_rfl:_=1) (by decide) (by kernel_rfl:_=16) (EV fun _=>rfl)).map id (fun _=>rfl) (fun l h=>by have:=h.1;rw[lD]at this;simp only[id];omega)
theorem Exp.lim_mk{o n:Int}{s m:a7}{ns:List a7}{es:List Exp}(h1:ns.length<=8796093022208)(h2:es.length<=140737488355328)(h3:∀v∈es,v.Lim):(Exp.mk o n s m ns es).Lim:=fun j=>match j with
 |0=>trivial
 |j+1=>⟨h1,h2,fun x hx=>h3 x hx j⟩
theorem rt{N:Nat}(h:Rd enc Tryz.prog W N 66 (fun v:Exp=>v.cells) Exp.Lim):Rd enc Tryz.prog W N 24 (fun l:List Exp=>[bX l]) (fun l=>l.length<=140737488355328/\∀v∈l,v.Lim):=
 (lC h Tryz.underlying24 (by kernel_rfl:_=6) (by decide) (by kernel_rfl:_=96) (ev:=Exp.av) (lR fun v=>rfl)).map id (fun l=>by simp[bX,iO]) (fun l h=>⟨by have:=h.1;rw[lD]at this;simp only[id];omega,h.2⟩)
theorem zI:∀N,Rd enc Tryz.prog W N 66 (fun v:Exp=>v.cells) Exp.Lim
 |0=>.zero
 | N+1=>(gG Tryz.underlying66 (by kernel_rfl) (bm (oJ Tryz.underlying3) rfl (by kernel_rfl:_=1) (bm (oJ Tryz.underlying3) rfl (by kernel_rfl:_=1) (bm (oK Tryz.underlying9) rfl (by kernel_rfl:_=1) (bm (oK Tryz.underlying9) rfl (by kernel_rfl:_=1)
   (bm (uY N) rfl (by kernel_rfl:_=1) (bm (rt (zI N)) rfl (by kernel_rfl:_=1) jd))))))).map (fun x=>Exp.mk x.1 x.2.1 x.2.2.1 x.2.2.2.1 x.2.2.2.2.1 x.2.2.2.2.2.1) (fun x=>by simp[Exp.cells_eq,Exp.op,Exp.n,Exp.s,Exp.m,Exp.names,Exp.args]) (fun x h=>Exp.lim_mk h.2.2.2.2.1 h.2.2.2.2.2.1.1 h.2.2.2.2.2.1.2)
theorem uW(N:Nat):Rd enc Tryz.prog W N 24 (fun l:List Exp=>[bX l]) (fun l=>l.length<=140737488355328/\∀v∈l,v.Lim):=rt (zI N)
theorem uX(N:Nat):Rd enc Tryz.prog W N 23 (fun l:List bd=>[aK l]) (fun l=>l.length<=140737488355328/\∀v∈l,v.2.Lim):=(ru (Ga N)).le (RP N)
theorem KR(N:Nat):Rd enc Tryz.prog W (N+1) 68 (fun f:Fun=>ab f.av) Fun.Lim:=
 (gG Tryz.underlying68 (by kernel_rfl) (bm (oK Tryz.underlying9) rfl (by kernel_rfl:_=1) (bm (Bj Tryz.underlying4) rfl (by kernel_rfl:_=1) (bm (uX N) rfl (by kernel_rfl:_=1) (bm (Ga N) rfl (by kernel_rfl:_=2)
  (bm (oJ Tryz.underlying3) rfl (by kernel_rfl:_=1) (bm (zI N) rfl (by kernel_rfl:_=6) jd))))))).map (fun x=>(⟨x.1,x.2.1,x.2.2.1,x.2.2.2.1,x.2.2.2.2.1,x.2.2.2.2.2.1⟩:Fun))
  (fun x=>by simp[Ty.cells_eq,Exp.cells_eq]) (fun x h=>⟨h.2.2.1.1,h.2.2.1.2,h.2.2.2.1,h.2.2.2.2.2.1⟩)
theorem H7(N:Nat):Rd enc Tryz.prog W N 25 (fun l:List Fun=>[gC l]) (fun l=>l.length<=140737488355328/\∀v∈l,v.Lim):=
 ((lC (KR N) Tryz.underlying25 (by kernel_rfl:_=12) (by decide) (by kernel_rfl:_=184) (ev:=Fun.av) (lR fun v=>rfl)).map id (fun l=>by simp[gC]) (fun l h=>⟨by have:=h.1;rw[lD]at this;simp only[id];omega,h.2⟩)).le (RP N)
theorem F9(N:Nat):Rd enc Tryz.prog W (N+1) 29 (fun m:Mod=>ab m.av) Mod.Lim:=
 (gG Tryz.underlying29 (by kernel_rfl) (bm (oK Tryz.underlying9) rfl (by kernel_rfl:_=1) (bm (uY N) rfl (by kernel_rfl:_=1) (bm (uX N) rfl (by kernel_rfl:_=1) (bm (uW N) rfl (by kernel_rfl:_=1)
  (bm (H7 N) rfl (by kernel_rfl:_=1) (bm (Bj Tryz.underlying4) rfl (by kernel_rfl:_=1)
  (bm ((gG Tryz.underlying27 (by kernel_rfl) (bm (uX N) rfl (by kernel_rfl:_=1) (bm (uW N) rfl (by kernel_rfl:_=1) (bm (uW N) rfl (by kernel_rfl:_=1) jd)))).le (RP N)) rfl (by kernel_rfl:_=3) jd)))))))).map
  (fun x=>(⟨x.1,x.2.1,x.2.2.1,x.2.2.2.1,x.2.2.2.2.1,x.2.2.2.2.2.1,x.2.2.2.2.2.2.1.1,x.2.2.2.2.2.2.1.2.1,x.2.2.2.2.2.2.1.2.2.1⟩:Mod))
  (fun x=>by simp) (fun x h=>⟨by have:=h.2.1;simp only;omega,h.2.2.1.1,h.2.2.1.2,h.2.2.2.1.1,h.2.2.2.1.2,h.2.2.2.2.1.1,h.2.2.2.2.1.2,h.2.2.2.2.2.2.1.1.1,h.2.2.2.2.2.2.1.1.2,h.2.2.2.2.2.2.1.2.1.1,h.2.2.2.2.2.2.1.2.1.2,h.2.2.2.2.2.2.1.2.2.1.1,h.2.2.2.2.2.2.1.2.2.1.2⟩)
end
end Go.Proofs.YtihmmkncokjbaaaGreatDoor
namespace Go.Proofs.YtihmmkncokjbaaaGreatDoor
open Go Go.Av Go.Av.Ap Go.RowKit
set_option maxRecDepth 1000000
section
variable {H:Type} {enc:TypeId×Value->H} {W:World}
theorem Val.lim_mk{k n:Int}{ns:List a7}{vs:List Val}(h1:ns.length<=140737488355328)(h2:vs.length<=140737488355328)(h3:∀v∈vs,v.Lim):(Val.mk k n ns vs).Lim:=fun j=>match j with
 |0=>trivial
 |j+1=>⟨h1,h2,fun x hx=>h3 x hx j⟩
theorem ry{N:Nat}(h:Rd enc Tryz.prog W N 45 (fun v:Val=>ab v.av) Val.Lim):Rd enc Tryz.prog W N 30 (fun l:List Val=>[vals l]) (fun l=>l.length<=140737488355328/\∀v∈l,v.Lim):=
 (lC h Tryz.underlying30 (by kernel_rfl:_=4) (by decide) (by kernel_rfl:_=64) (ev:=Val.av) (lR fun v=>by rw[v.av_eq];rfl)).map id (fun l=>by simp[vals,eB]) (fun l h=>⟨by have:=h.1;rw[lD]at this;simp only[id];omega,h.2⟩)
theorem rd_val:∀N,Rd enc Tryz.prog W N 45 (fun v:Val=>ab v.av) Val.Lim
 |0=>.zero
 | N+1=>(gG Tryz.underlying45 (by kernel_rfl) (bm (oJ Tryz.underlying3) rfl (by kernel_rfl:_=1) (bm (oJ Tryz.underlying3) rfl (by kernel_rfl:_=1) (bm (uY N) rfl (by kernel_rfl:_=1)
   (bm (ry (rd_val N)) rfl (by kernel_rfl:_=1) jd))))).map (fun x=>Val.mk x.1 x.2.1 x.2.2.1 x.2.2.2.1) (fun x=>by simp[Val.av_eq,ab]) (fun x h=>Val.lim_mk (by have:=h.2.2.1;omega) h.2.2.2.1.1 h.2.2.2.1.2)
theorem H8(N:Nat):Rd enc Tryz.prog W N 30 (fun l:List Val=>[vals l]) (fun l=>l.length<=140737488355328/\∀v∈l,v.Lim):=ry (rd_val N)
end
end Go.Proofs.YtihmmkncokjbaaaGreatDoor
