/- What the functions compute, part 2. Conditions: bounds. -/
import Derived.Test.YtihmmkncokjbaaaGreatDoorTa
import Derived.Laws.Rows
import Derived.WalkSmall
import Derived.RangeFuncNested
import Derived.RangeFuncBound
import Derived.RangeFuncCalls
import Derived.RangeFuncLeaves
import Derived.RangeFuncBox
import Derived.Shelf.Abstract
import Derived.Shelf.RegionOpen
import Derived.OwnWalkIn
import Derived.TacticsInMore
import Derived.LoopNIn
import Derived.LoopIn
import Derived.Shelf.Spec.SlicesInsertGrow
set_option linter.defProp false
set_option linter.unusedSimpArgs false
set_option linter.unusedVariables false
namespace Go.Proofs.YtihmmkncokjbaaaGreatDoor
open Go Go.Av
set_option maxRecDepth 100000
def zY(w:World)(k f:Value):World:=((w.alloc (Obj.cells #[k,f] 35)).alloc (Obj.cells #[Value.int IntKind.i64 0,Value.int IntKind.i64 0,Value.slice none 0 0,Value.slice none 0 0] 45)).alloc (Obj.cells #[Value.int IntKind.i64 0] 39)
def r6(w:World)(k f:Value)(x:ByteArray):World:=(zY w k f).alloc (Obj.cells #[.string x] 85)
def f9(b:Nat)(w:World)(u0 u1 u2 u3:Value):World:=(((w.setCell ⟨b,0,none⟩ u0).setCell ⟨b,1,none⟩ u1).setCell ⟨b,2,none⟩ u2).setCell ⟨b,3,none⟩ u3
def bL(b:Nat)(w:World):World:=(f9 b (qS w) (.int .i64 0) (.int .i64 0) (.slice none 0 0) (.slice none 0 0)).setCell ⟨b+1,0,none⟩ (.int .i64 34)
def ij:Value:=.tuple #[.agg #[.int .i64 0,.int .i64 0,.slice none 0 0,.slice none 0 0],.int .i64 34]
abbrev Dv:Ending:=.panicked [{ v:=.iface 81 (.agg #[]),recovered:=false }]
structure RdRows (n:Nat) (w:World) (k f u0 u1 u2 u3:Value):Prop where
 r0:w.heap[n]? = some (.cells #[k,f] 35 (0,0))
 r1:w.heap[n+1]? = some (.cells #[u0,u1,u2,u3] 45 (0,0))
 r2:w.heap[n+2]? = some (.cells #[Value.int IntKind.i64 0] 39 (0,0))
def lr{w:World}{b:Nat}{o:Obj}(h:w.heap[b]? = some o):(qS w).heap[b]? = some o:=by
 have hb:b<w.heap.size:=by
  rcases Gp b w.heap.size with h1|h1
  ·exact h1
  ·rw[GL h1]at h;cases h
 unfold qS;rw[Go.Av.alloc_old _ _ hb];exact h
def RdRows.vcells{n:Nat}{w:World}{k f x0 x1 x2 x3:Value}(H:RdRows n w k f x0 x1 x2 x3):(w.cell? ⟨n+1,0,none⟩=some x0/\w.cell? ⟨n+1,1,none⟩=some x1/\w.cell? ⟨n+1,2,none⟩=some x2/\w.cell? ⟨n+1,3,none⟩=some x3/\w.cell? ⟨n+2,0,none⟩=some (.int .i64 0))/\
  (w.frozen? ⟨n+1,0,none⟩=false/\w.frozen? ⟨n+1,1,none⟩=false/\w.frozen? ⟨n+1,2,none⟩=false/\w.frozen? ⟨n+1,3,none⟩=false/\w.frozen? ⟨n+2,0,none⟩=false):=
 ⟨⟨by simp[World.cell?,H.r1],by simp[World.cell?,H.r1],by simp[World.cell?,H.r1],by simp[World.cell?,H.r1],by simp[World.cell?,H.r2]⟩,by simp[World.frozen?,H.r1],by simp[World.frozen?,H.r1],by simp[World.frozen?,H.r1],by simp[World.frozen?,H.r1],by simp[World.frozen?,H.r2]⟩
def RdRows.put{n:Nat}{w:World}{k f x0 x1 x2 x3:Value}(H:RdRows n w k f x0 x1 x2 x3)(u0 u1 u2 u3:Value):RdRows n (f9 (n+1) w u0 u1 u2 u3) k f u0 u1 u2 u3:=by
 have e0:=heap_setCell_same w (n+1) 0 _ _ u0 H.r1;have e1:=heap_setCell_same _ (n+1) 1 _ _ u1 e0;have e2:=heap_setCell_same _ (n+1) 2 _ _ u2 e1;have e3:=heap_setCell_same _ (n+1) 3 _ _ u3 e2;refine⟨?_,e3,?_⟩
 ·unfold f9;rw[aG (by simp),aG (by simp),aG (by simp),aG (by simp)];exact H.r0
 ·unfold f9;rw[aG (by simp),aG (by simp),aG (by simp),aG (by simp)];exact H.r2
def kM{n:Nat}{w:World}{k f x0 x1 x2 x3:Value}(H:RdRows n w k f x0 x1 x2 x3):CallsD Tryz.prog 53 #[.pointer (some ⟨n+1,0,none⟩),.pointer (some ⟨n+2,0,none⟩)] (.panicking [{ v:=.iface 81 (.agg #[]),recovered:=false }]) w fun e u' w'=>
   e= .returned (.tuple #[])/\u'= .panicking [{ v:=.iface 81 (.agg #[]),recovered:=true }]/\w'=bL (n+1) w:=by
 have r1:=lr H.r1;have r2:=lr H.r2;exact r5 (n+1) (n+2) x0 x1 x2 x3 (.int .i64 0) w (by simp[World.cell?,r1]) (by simp[World.cell?,r1]) (by simp[World.cell?,r1]) (by simp[World.cell?,r1]) (by simp[World.cell?,r2])
  (by simp[World.frozen?,r1]) (by simp[World.frozen?,r1]) (by simp[World.frozen?,r1]) (by simp[World.frozen?,r1]) (by simp[World.frozen?,r2]) (by omega) (by omega)
def fI{n:Nat}{w:World}{k f x0 x1 x2 x3:Value}(H:RdRows n w k f x0 x1 x2 x3):(bL (n+1) w).heap[n+1]? = some (.cells #[.int .i64 0,.int .i64 0,.slice none 0 0,.slice none 0 0] 45 (0,0))/\(bL (n+1) w).heap[n+2]? = some (.cells #[Value.int IntKind.i64 34] 39 (0,0)):=by
 have H':RdRows n (qS w) k f x0 x1 x2 x3:=⟨lr H.r0,lr H.r1,lr H.r2⟩;have P:=H'.put (.int .i64 0) (.int .i64 0) (.slice none 0 0) (.slice none 0 0);refine⟨?_,?_⟩
 ·unfold bL;rw[aG (by simp)];exact P.r1
 ·exact heap_setCell_same _ (n+2) 0 _ _ _ P.r2
def oZ(n:Nat)(k f u0 u1 u2 u3:Value)(R:Ending->World->Prop):Ending->World->Prop:=fun e w'=>RdRows n w' k f u0 u1 u2 u3/\
 ((e= .returned (.bool true)/\R (.returned (.tuple #[.agg #[u0,u1,u2,u3],.int .i64 0])) ((f9 (n+1) w' u0 u1 u2 u3).setCell ⟨n+2,0,none⟩ (.int .i64 0)))\/
  ((e= .returned (.bool false)\/e=Dv)/\R (.returned ij) (bL (n+1) w')))
def o4(n:Nat)(k f:Value)(R:Ending->World->Prop):Ending->World->Prop:=fun e w'=>RdRows n w' k f (.int .i64 0) (.int .i64 0) (.slice none 0 0) (.slice none 0 0)/\
 ((∃(u0 u1 u2 u3:Value)(y:ByteArray),u0.oneCell'=true/\u1.oneCell'=true/\u2.oneCell'=true/\u3.oneCell'=true/\e= .returned (.agg #[u0,u1,u2,u3])/\w'.cell? ⟨n+3,0,none⟩=some (.string y)/\
   ((y.toList.isEmpty=false/\R (.returned ij) (bL (n+1) (f9 (n+1) w' u0 u1 u2 u3)))\/
    (y=⟨#[]⟩/\Calls Tryz.prog 20 #[.agg #[k,f],.agg #[u0,u1,u2,u3]] (f9 (n+1) w' u0 u1 u2 u3) (oZ n k f u0 u1 u2 u3 R))))\/
   (e=Dv/\R (.returned ij) (bL (n+1) w')))
def g8{w:World}{a:Addr}{v x:Value}{m:Mode}(h:w.cell? a=some x)(hf:w.frozen? a=false):stored Tryz.prog w a v m= .ok () (w.setCell a v):=by simp[stored,h,hf]
def rZ{w:World}{b:Nat}{t:TypeId}{x0 x1 x2 x3:Value}(H:w.heap[b]? = some (.cells #[x0,x1,x2,x3] t (0,0)))(u0 u1 u2 u3:Value)(m:Mode):
  stored Tryz.prog w ⟨b,0,none⟩ u0 m= .ok () (w.setCell ⟨b,0,none⟩ u0)/\
  stored Tryz.prog (w.setCell ⟨b,0,none⟩ u0) ⟨b,1,none⟩ u1 m= .ok () ((w.setCell ⟨b,0,none⟩ u0).setCell ⟨b,1,none⟩ u1)/\
  stored Tryz.prog ((w.setCell ⟨b,0,none⟩ u0).setCell ⟨b,1,none⟩ u1) ⟨b,2,none⟩ u2 m= .ok () (((w.setCell ⟨b,0,none⟩ u0).setCell ⟨b,1,none⟩ u1).setCell ⟨b,2,none⟩ u2)/\
  stored Tryz.prog (((w.setCell ⟨b,0,none⟩ u0).setCell ⟨b,1,none⟩ u1).setCell ⟨b,2,none⟩ u2) ⟨b,3,none⟩ u3 m= .ok () (f9 b w u0 u1 u2 u3):=by
 have e0:=heap_setCell_same w b 0 _ _ u0 H;have e1:=heap_setCell_same _ b 1 _ _ u1 e0;have e2:=heap_setCell_same _ b 2 _ _ u2 e1;exact⟨g8 (x:=x0) (by simp[World.cell?,H]) (by simp[World.frozen?,H]),g8 (x:=x1) (by simp[World.cell?,e0]) (by simp[World.frozen?,e0]),g8 (x:=x2) (by simp[World.cell?,e1]) (by simp[World.frozen?,e1]),g8 (x:=x3) (by simp[World.cell?,e2]) (by simp[World.frozen?,e2])⟩
def uB{b:Nat}{w:World}{u0 u1 u2 u3:Value}{c o:Nat}(h:c≠b):(f9 b w u0 u1 u2 u3).cell? ⟨c,o,none⟩=w.cell? ⟨c,o,none⟩:=by
 unfold f9;rw[cell_of_heap (aG h),cell_of_heap (aG h),cell_of_heap (aG h),cell_of_heap (aG h)]
set_option maxHeartbeats 4000000 in
def uD(k f:Value)(hk:k.oneCell'=true)(hf:f.oneCell'=true)(x:ByteArray)(w:World)(R:Ending->World->Prop)(hc:Calls Tryz.prog 54 #[.pointer (some ⟨w.heap.size+3,0,none⟩),.int .i64 4] (r6 w k f x) (o4 w.heap.size k f R)):Calls Tryz.prog 19 #[.agg #[k,f],.string x] w R:=by
 have hmf:∀(fn:Fn)(first cap:Array Value)(w:World),(Instr.makeFunc fn first cap).run Tryz.prog w= .ok (.func fn first cap) w:=fun _ _ _ _=>rfl;unfold r6 zY at hc
 go_enter_defers Tryz.func19,Tryz.ntmps19
 go_wp2_with (go_at_call 54;refine hc.mono ?_;rintro e w' ⟨H,h⟩;rcases h with⟨u0,u1,u2,u3,y,o0,o1,o2,o3,rfl,hy,h⟩|⟨rfl,hR⟩)
 ·have s0:∀a m (w:World),(store a u0 m).run Tryz.prog w=stored Tryz.prog w a u0 m:=fun a m w=>run_store _ w a u0 m o0;have s1:∀a m (w:World),(store a u1 m).run Tryz.prog w=stored Tryz.prog w a u1 m:=fun a m w=>run_store _ w a u1 m o1;have s2:∀a m (w:World),(store a u2 m).run Tryz.prog w=stored Tryz.prog w a u2 m:=fun a m w=>run_store _ w a u2 m o2;have s3:∀a m (w:World),(store a u3 m).run Tryz.prog w=stored Tryz.prog w a u3 m:=fun a m w=>run_store _ w a u3 m o3;obtain⟨p0,p1,p2,p3⟩:=rZ H.r1 u0 u1 u2 u3 .plain;simp only[s0,s1,s2,s3,p0,p1,p2,p3,Result.andThen];have P:=H.put u0 u1 u2 u3;have hy1:(f9 (w.heap.size+1) w' u0 u1 u2 u3).cell? ⟨w.heap.size+3,0,none⟩=some (.string y):=by rw[uB (by simp)];exact hy
  clear hc H p0 p1 p2 p3 hy;generalize f9 (w.heap.size+1) w' u0 u1 u2 u3=w1 at h P hy1 |-;have t0:w1.cell? ⟨w.heap.size,0,none⟩=some k:=by simp[World.cell?,P.r0]
  have t1:w1.cell? ⟨w.heap.size,1,none⟩=some f:=by simp[World.cell?,P.r0]
  have c0:w1.cell? ⟨w.heap.size+1,0,none⟩=some u0:=by simp[World.cell?,P.r1]
  have c1:w1.cell? ⟨w.heap.size+1,1,none⟩=some u1:=by simp[World.cell?,P.r1]
  have c2:w1.cell? ⟨w.heap.size+1,2,none⟩=some u2:=by simp[World.cell?,P.r1]
  have c3:w1.cell? ⟨w.heap.size+1,3,none⟩=some u3:=by simp[World.cell?,P.r1]
  rcases h with⟨hy0,hR⟩|⟨rfl,hcall⟩
  ·go_wp2
   refine leaves_cons (f:=53) (args:=#[.pointer (some ⟨w.heap.size+1,0,none⟩),.pointer (some ⟨w.heap.size+2,0,none⟩)]) (by simp) (by simp[go_sem]) ?_;refine (kM P).mono ?_;rintro e u' w'' ⟨rfl,rfl,rfl⟩;simp only[settle];refine⟨_,?_,hR⟩;obtain⟨q1,q2⟩:=fI P;have a0:(bL (w.heap.size+1) w1).cell? ⟨w.heap.size+1,0,none⟩=some (.int .i64 0):=by simp[World.cell?,q1]
   have a1:(bL (w.heap.size+1) w1).cell? ⟨w.heap.size+1,1,none⟩=some (.int .i64 0):=by simp[World.cell?,q1]
   have a2:(bL (w.heap.size+1) w1).cell? ⟨w.heap.size+1,2,none⟩=some (.slice none 0 0):=by simp[World.cell?,q1]
   have a3:(bL (w.heap.size+1) w1).cell? ⟨w.heap.size+1,3,none⟩=some (.slice none 0 0):=by simp[World.cell?,q1]
   have a4:(bL (w.heap.size+1) w1).cell? ⟨w.heap.size+2,0,none⟩=some (.int .i64 34):=by simp[World.cell?,q2]
   generalize bL (w.heap.size+1) w1=W at *;simp[results,Tryz.results19,go_sem,ij,a0,a1,a2,a3,a4]
  ·go_wp2_with (go_at_call 20;refine hcall.mono ?_;rintro e w3 ⟨H,h⟩;obtain⟨⟨d0,d1,d2,d3,d4⟩,g0,g1,g2,g3,g4⟩:=H.vcells;rcases h with⟨rfl,hR⟩|⟨rfl|rfl,hR⟩)
   ·clear P;refine leaves_cons (f:=53) (args:=#[.pointer (some ⟨w.heap.size+1,0,none⟩),.pointer (some ⟨w.heap.size+2,0,none⟩)]) (by simp) (by simp[go_sem]) ?_;refine (qy ⟨w.heap.size+1,0,none⟩ ⟨w.heap.size+2,0,none⟩ _).mono ?_;rintro e u' w'' ⟨rfl,rfl,rfl⟩;simp only[settle];refine⟨_,?_,hR⟩;simp[results,Tryz.results19,go_sem,World.cell?_setCell_same,d0,d1,d2,d3,d4]
   ·refine leaves_cons (f:=53) (args:=#[.pointer (some ⟨w.heap.size+1,0,none⟩),.pointer (some ⟨w.heap.size+2,0,none⟩)]) (by simp) (by simp[go_sem]) ?_;refine (kM H).mono ?_;rintro e u' w'' ⟨rfl,rfl,rfl⟩;simp only[settle];refine⟨_,?_,hR⟩;obtain⟨q1,q2⟩:=fI H;have a0:(bL (w.heap.size+1) w3).cell? ⟨w.heap.size+1,0,none⟩=some (.int .i64 0):=by simp[World.cell?,q1]
    have a1:(bL (w.heap.size+1) w3).cell? ⟨w.heap.size+1,1,none⟩=some (.int .i64 0):=by simp[World.cell?,q1]
    have a2:(bL (w.heap.size+1) w3).cell? ⟨w.heap.size+1,2,none⟩=some (.slice none 0 0):=by simp[World.cell?,q1]
    have a3:(bL (w.heap.size+1) w3).cell? ⟨w.heap.size+1,3,none⟩=some (.slice none 0 0):=by simp[World.cell?,q1]
    have a4:(bL (w.heap.size+1) w3).cell? ⟨w.heap.size+2,0,none⟩=some (.int .i64 34):=by simp[World.cell?,q2]
    generalize bL (w.heap.size+1) w3=W at *;simp[results,Tryz.results19,go_sem,ij,a0,a1,a2,a3,a4]
   ·refine leaves_cons (f:=53) (args:=#[.pointer (some ⟨w.heap.size+1,0,none⟩),.pointer (some ⟨w.heap.size+2,0,none⟩)]) (by simp) (by simp[go_sem]) ?_;refine (kM H).mono ?_;rintro e u' w'' ⟨rfl,rfl,rfl⟩;simp only[settle];refine⟨_,?_,hR⟩;obtain⟨q1,q2⟩:=fI H;have a0:(bL (w.heap.size+1) w3).cell? ⟨w.heap.size+1,0,none⟩=some (.int .i64 0):=by simp[World.cell?,q1]
    have a1:(bL (w.heap.size+1) w3).cell? ⟨w.heap.size+1,1,none⟩=some (.int .i64 0):=by simp[World.cell?,q1]
    have a2:(bL (w.heap.size+1) w3).cell? ⟨w.heap.size+1,2,none⟩=some (.slice none 0 0):=by simp[World.cell?,q1]
    have a3:(bL (w.heap.size+1) w3).cell? ⟨w.heap.size+1,3,none⟩=some (.slice none 0 0):=by simp[World.cell?,q1]
    have a4:(bL (w.heap.size+1) w3).cell? ⟨w.heap.size+2,0,none⟩=some (.int .i64 34):=by simp[World.cell?,q2]
    generalize bL (w.heap.size+1) w3=W at *;simp[results,Tryz.results19,go_sem,ij,a0,a1,a2,a3,a4]
 ·refine leaves_cons (f:=53) (args:=#[.pointer (some ⟨w.heap.size+1,0,none⟩),.pointer (some ⟨w.heap.size+2,0,none⟩)]) (by simp) (by simp[go_sem]) ?_;refine (kM H).mono ?_;rintro e u' w'' ⟨rfl,rfl,rfl⟩;simp only[settle];refine⟨_,?_,hR⟩;obtain⟨q1,q2⟩:=fI H;have a0:(bL (w.heap.size+1) w').cell? ⟨w.heap.size+1,0,none⟩=some (.int .i64 0):=by simp[World.cell?,q1]
  have a1:(bL (w.heap.size+1) w').cell? ⟨w.heap.size+1,1,none⟩=some (.int .i64 0):=by simp[World.cell?,q1]
  have a2:(bL (w.heap.size+1) w').cell? ⟨w.heap.size+1,2,none⟩=some (.slice none 0 0):=by simp[World.cell?,q1]
  have a3:(bL (w.heap.size+1) w').cell? ⟨w.heap.size+1,3,none⟩=some (.slice none 0 0):=by simp[World.cell?,q1]
  have a4:(bL (w.heap.size+1) w').cell? ⟨w.heap.size+2,0,none⟩=some (.int .i64 34):=by simp[World.cell?,q2]
  generalize bL (w.heap.size+1) w'=W at *;simp[results,Tryz.results19,go_sem,ij,a0,a1,a2,a3,a4]
def ww{S S1:ap}{β β1:List aZ}{w w1:World}{h h1:Hp}(hg:kz S β h w)(L:Go.Av.Left (a8 β h) S β w S1 β1 w1 h1):kz S1 β1 h1 w1:=by
 have hlt:=hg.1.lt;refine⟨hg.1.mono fun b hb=>(L.keep b (by omega) (hg.2.1 b hb)).1,fun b hb ho=>?_,hg.2.2.mono L.le⟩;rcases L.owned b ho with h|h
 ·exact hg.2.1 b hb h
 ·omega
def wF{S:ap}{w w2:World}(hw:Wf S w)(hg:Gro w w2)(hold:∀b,b<w.heap.size->w2.heap[b]? = w.heap[b]?):Go.Av.Left (a8 [] []) S [] w S [] w2 []:=
 ⟨ap.le_refl S,cq.refl _,fun b o v hv=>by rw[cell_of_heap (hold b (hw.lt hv))];exact hw b o v hv,hg,fun b hb _=>⟨hold b hb,fun _=>rfl⟩,a7.nil,fun b ho=>by obtain⟨l,_,_,h1,_⟩:=ho;simp at h1⟩
def RdRows.keep{n:Nat}{w w':World}{k f x0 x1 x2 x3:Value}(H:RdRows n w k f x0 x1 x2 x3)(h:∀j,j<3->w'.heap[n+j]? = w.heap[n+j]?):RdRows n w' k f x0 x1 x2 x3:=
 ⟨(h 0 (by omega)).trans H.r0,(h 1 (by omega)).trans H.r1,(h 2 (by omega)).trans H.r2⟩
def wV(w:World)(k f:Value)(x:ByteArray):(r6 w k f x).heap.size=w.heap.size+4:=by simp[r6,zY]
def yY(w:World)(k f:Value)(x:ByteArray)(b:Nat)(hb:b<w.heap.size):(r6 w k f x).heap[b]? = w.heap[b]?:=by
 unfold r6 zY;rw[Go.Av.alloc_old _ _ (by simp;omega),Go.Av.alloc_old _ _ (by simp;omega),Go.Av.alloc_old _ _ (by simp;omega),Go.Av.alloc_old _ _ hb]
def tt(w:World)(k f:Value)(x:ByteArray):Gro w (r6 w k f x):=(((Gro.alloc w _ _).trans (Gro.alloc _ _ _)).trans (Gro.alloc _ _ _)).trans (Gro.alloc _ _ _)
def wU(w:World)(k f:Value)(x:ByteArray):RdRows w.heap.size (r6 w k f x) k f (.int .i64 0) (.int .i64 0) (.slice none 0 0) (.slice none 0 0):=by
 unfold r6 zY;refine⟨?_,?_,?_⟩
 ·rw[Go.Av.alloc_old _ _ (by simp;omega),Go.Av.alloc_old _ _ (by simp;omega),Go.Av.alloc_old _ _ (by simp)];exact heap_alloc_new w _
 ·rw[Go.Av.alloc_old _ _ (by simp),Go.Av.alloc_old _ _ (by simp)]
  have:=heap_alloc_new (w.alloc (Obj.cells #[k,f] 35)) (Obj.cells #[Value.int IntKind.i64 0,Value.int IntKind.i64 0,Value.slice none 0 0,Value.slice none 0 0] 45)
  rwa [World.size_alloc]at this
 ·rw[Go.Av.alloc_old _ _ (by simp)]
  have:=heap_alloc_new ((w.alloc (Obj.cells #[k,f] 35)).alloc (Obj.cells #[Value.int IntKind.i64 0,Value.int IntKind.i64 0,Value.slice none 0 0,Value.slice none 0 0] 45)) (Obj.cells #[Value.int IntKind.i64 0] 39)
  rwa [World.size_alloc,World.size_alloc]at this
def yZ(w:World)(k f:Value)(x:ByteArray):(r6 w k f x).heap[w.heap.size+3]? = some (.cells #[.string x] 85 (0,0)):=by
 unfold r6
 have:=heap_alloc_new (zY w k f) (Obj.cells #[.string x] 85)
 have hs:(zY w k f).heap.size=w.heap.size+3:=by simp[zY]
 rwa [hs]at this
def jg(b:Nat)(w:World)(u0 u1 u2 u3:Value):Gro w (f9 b w u0 u1 u2 u3):=(((Gro.setCell _ _ _).trans (Gro.setCell _ _ _)).trans (Gro.setCell _ _ _)).trans (Gro.setCell _ _ _)
def ub(b:Nat)(w:World):Gro w (bL b w):=((Gro.alloc w _ _).trans (jg _ _ _ _ _ _)).trans (Gro.setCell _ _ _)
def jK{b c:Nat}{w:World}{u0 u1 u2 u3:Value}(h:c≠b):(f9 b w u0 u1 u2 u3).heap[c]? = w.heap[c]?:=by
 unfold f9;rw[aG h,aG h,aG h,aG h]
def uc{b c:Nat}{w:World}(h:c<b)(hs:b<=w.heap.size):(bL b w).heap[c]? = w.heap[c]?:=by
 unfold bL;rw[aG (by simp;omega),jK (by omega)];exact Go.Av.alloc_old _ _ (by omega)
def gL{S:ap}{w w':World}(hw:Wf S w)(hg:Gro w w')(hs:w.heap.size+1<=w'.heap.size)(hold:∀b,b<w.heap.size->w'.heap[b]? = w.heap[b]?):bS none S [] [] w (.ok sP []) (.returned ij) (bL (w.heap.size+1) w'):=by
 refine⟨S,[],ij,rfl,?_,wF hw (hg.trans (ub _ _)) (fun b hb=>by rw[uc (by omega) hs];exact hold b hb),fun sz hsz=>by cases hsz⟩;simp only[sP,ij,VR,aP];refine⟨[.agg #[.int .i64 0,.int .i64 0,.slice none 0 0,.slice none 0 0],.int .i64 34],rfl,_,_,rfl,⟨[.int .i64 0,.int .i64 0,.slice none 0 0,.slice none 0 0],rfl,_,_,rfl,rfl,_,_,rfl,rfl,_,_,rfl,?_,_,_,rfl,?_,rfl⟩,_,_,rfl,rfl,rfl⟩
 ·exact⟨none,0,rfl,Ga _,fun _=>rfl,fun q hq=>by cases hq⟩
 ·exact⟨none,0,rfl,Ga _,fun _=>rfl,fun q hq=>by cases hq⟩
def ie{v:AV}{h:Hp}(hne:ej 81 (.pan v h)≠.fail):v= .iface 81 (.agg [])/\ej 81 (.pan v h)= .ok sP []:=by
 unfold ej at hne |-;split at hne
 ·rename_i heq;cases heq
 ·rename_i t h' heq;cases heq;cases hb:Nat.beq t 81 with
  |false=>rw[hb]at hne;exact absurd rfl hne
  |true=>rw[Gh hb];exact⟨rfl,rfl⟩
 ·exact absurd rfl hne
 ·exact absurd rfl hne
def tq{S:ap}{β:List aZ}{v:Value}(h:VR S β (.iface 81 (.agg [])) v):v= .iface 81 (.agg #[]):=by
 simp only[VR,aP]at h;obtain⟨x,rfl,vs,rfl,rfl⟩:=h;rfl
def sW{n:Nat}{s:List UInt8}{b:Nat}(h:a8 [(n,1)] [[AV.str s]] b):b=n:=by
 obtain⟨l,cs,m,h1,h2,h3⟩:=h;cases l with
 |zero=>simp at h3;exact h3.1.symm
 |succ l=>simp at h1
def qn{m:Nat}{v:AV}(hm:m≠1)(h:bo m v=true):∃cs,v= .agg cs:=by
 simp only[bo,F8]at h;have h1:=h.1;cases v<;>simp[bP]at h1<;>first|exact⟨_,rfl⟩|(exfalso;omega)
def wy(call:FuncId->List AV->M AV)(hC:bD Tryz.prog own call){S S1:ap}{β1:List aZ}{w w1:World}{h1:Hp}{k f u0 u1 u2 u3:Value}{t v:AV}(hw:Wf S w)(hg1:kz S1 β1 h1 w1)(L1:Go.Av.Left (a8 [] []) S [] w S1 β1 w1 h1)(hsz:w.heap.size+4<=w1.heap.size)(hB:∀b,w.heap.size<=b->b<w.heap.size+3->¬a8 β1 h1 b/\∀o,S1 b o=none)(hR:RdRows w.heap.size w1 k f u0 u1 u2 u3)(ht:VR S1 β1 t (.agg #[k,f]))(hv:VR S1 β1 v (.agg #[u0,u1,u2,u3]))(hok:bo 4 v=true)(hr:ej 81 ((af (call 20 [t,v]) fun r=>aF r (aw (.tup [.agg (ae v),.int .i64 0])) (dG (.iface 81 (.agg [])))) h1)≠.fail):
  Calls Tryz.prog 20 #[.agg #[k,f],.agg #[u0,u1,u2,u3]] w1 (oZ w.heap.size k f u0 u1 u2 u3 (bS none S [] [] w (ej 81 ((af (call 20 [t,v]) fun r=>aF r (aw (.tup [.agg (ae v),.int .i64 0])) (dG (.iface 81 (.agg [])))) h1)))):=by
 have hne:call 20 [t,v] h1≠.fail:=fun e=>hr (by unfold af;rw[e];rfl);have hc:=(hC 20 [t,v] h1 S1 β1 w1 [.agg #[k,f],.agg #[u0,u1,u2,u3]] hne hg1 L1.wf L1.heap (by simp only[aP];exact⟨_,_,rfl,ht,_,_,rfl,hv,rfl⟩)).1;refine hc.mono fun en w2 hp=>?_;have rows:∀S2 β2 h2,Go.Av.Left (a8 β1 h1) S1 β1 w1 S2 β2 w2 h2->RdRows w.heap.size w2 k f u0 u1 u2 u3:=fun S2 β2 h2 L=>hR.keep fun j hj=>(L.keep _ (by omega) (hB _ (by omega) (by omega)).1).1;have old:∀S2 β2 h2,Go.Av.Left (a8 β1 h1) S1 β1 w1 S2 β2 w2 h2->(Gro w w2/\w.heap.size+1<=w2.heap.size/\∀b,b<w.heap.size->w2.heap[b]? = w.heap[b]?):=fun S2 β2 h2 L=>by
  have LL:=L1.trans L
  have:=L.size
  exact⟨LL.gro,by omega,fun b hb=>(LL.keep b hb (fun ho=>by obtain⟨l,_,_,q1,_⟩:=ho;simp at q1)).1⟩
 unfold af at hr |-;generalize call 20 [t,v] h1=r at hr hne hp |-;cases r with
 |fail=>exact absurd rfl hne
 |pan pv h2=>
  obtain⟨S2,β2,x,rfl,hx,L⟩:=hp;obtain⟨rfl,hcr⟩:=ie hr
  have:=tq hx
  subst this;obtain⟨g1,g2,g3⟩:=old _ _ _ L;refine⟨rows _ _ _ L,.inr ⟨.inr rfl,?_⟩⟩;show bS none S [] [] w (ej 81 (.pan (.iface 81 (.agg [])) h2)) _ _;rw[hcr];exact gL hw g1 g2 g3
 | ok rv h2=>
  obtain⟨S2,β2,x,rfl,hx,L,-⟩:=hp;obtain⟨g1,g2,g3⟩:=old _ _ _ L;have hrv:∃b,rv= .bool b:=by
   cases rv
   case bool b=>exact⟨b,rfl⟩
   all_goals exact absurd rfl hr
  obtain⟨b,rfl⟩:=hrv;simp only[VR]at hx;subst hx;refine⟨rows _ _ _ L,?_⟩;cases b with
  |false=>exact .inr ⟨.inl rfl,gL hw g1 g2 g3⟩
  | true=>
   refine .inl ⟨rfl,?_⟩;have LL:=(L1.trans L).store (w2:=(f9 (w.heap.size+1) w2 u0 u1 u2 u3).setCell ⟨w.heap.size+2,0,none⟩ (.int .i64 0)) ((jg _ _ _ _ _ _).trans (Gro.setCell _ _ _)) (fun b=>w.heap.size<=b/\b<w.heap.size+3) (fun b hb=>by
    have hs:=L1.size;refine⟨hb.1,fun ho=>?_,fun o=>?_⟩
    ·rcases L.owned b ho with ho|ho
     ·exact (hB b hb.1 hb.2).1 ho
     ·omega
    ·rw[(L.keep b (by omega) (hB b hb.1 hb.2).1).2 o];exact (hB b hb.1 hb.2).2 o) (fun b hb=>by
    rw[aG (by intro e;simp at e;omega),jK (by omega)])
   refine⟨S2,β2,_,rfl,?_,LL,fun sz hsz=>by cases hsz⟩;obtain⟨_,hvs,_⟩:=dC hok (hv.mono L.le L.ext);simp only[VR,aP];exact⟨[.agg #[u0,u1,u2,u3],.int .i64 0],rfl,_,_,rfl,⟨[u0,u1,u2,u3],rfl,hvs⟩,_,_,rfl,rfl,rfl⟩
def nK(call:FuncId->List AV->M AV)(t v:AV):M AV:=af (yc 4 v) fun _=>af lJ fun s=>af (aj (v6 s)) fun b=>aF b (af (call 20 [t,v]) fun r=>aF r (aw (.tup [.agg (ae v),.int .i64 0])) (dG (.iface 81 (.agg [])))) (dG (.iface 81 (.agg [])))
theorem qA(call:FuncId->List AV->M AV)(t:AV):tz 81 54 20 call t=af (call 54 [.hp 0 0,.int .i64 4]) (nK call t):=rfl
def xp(call:FuncId->List AV->M AV)(t v:AV)(h1:Hp)(hr:ej 81 (nK call t v h1)≠.fail):bo 4 v=true/\∃s',h1[0]? = some [AV.str s']/\nK call t v h1=aF (.bool s'.isEmpty) (af (call 20 [t,v]) fun r=>aF r (aw (.tup [.agg (ae v),.int .i64 0])) (dG (.iface 81 (.agg [])))) (dG (.iface 81 (.agg []))) h1:=by
 have e1:∀g:AV->M AV,af (yc 4 v) g h1=bif bo 4 v then g v h1 else .fail:=by intro g;unfold af yc;cases bo 4 v<;>rfl
 unfold nK at hr |-;rw[e1]at hr |-;cases hk:bo 4 v with
 |false=>rw[hk]at hr;exact absurd rfl hr
 | true=>
  rw[hk]at hr;simp only[F9]at hr |-;by_cases hex:∃s',h1[0]? = some [AV.str s']
  ·obtain⟨s',hrow⟩:=hex;have e2:∀g:AV->M AV,af lJ g h1=g (.str s') h1:=by intro g;unfold af lJ;rw[hrow]
   exact⟨trivial,s',hrow,by rw[e2];rfl⟩
  ·have e2:∀g:AV->M AV,af lJ g h1= .fail:=by
    intro g;have:lJ h1= .fail:=by
     unfold lJ;split
     ·exact absurd ⟨_,by assumption⟩ hex
     ·rfl
    unfold af;rw[this]
   rw[e2]at hr;exact absurd rfl hr
def DT(call:FuncId->List AV->M AV)(hC:bD Tryz.prog own call)(args:List AV)(h:Hp)(S:ap)(β:List aZ)(w:World)(vs:List Value)(hr:nF 81 54 20 call args h≠.fail)(hg:kz S β h w)(hw:Wf S w)(hh:a7 S β w h)(hv:aP S β args vs):
  Calls Tryz.prog 19 vs.toArray w (bS none S β h w (nF 81 54 20 call args h)):=by
 have hr':nG 81 54 20 call (cU aB args) []≠.fail:=by
  intro hf;unfold nF eM at hr;rw[hf]at hr;exact hr rfl
 have hv':=po hv;have hg':kz S [] [] w:=⟨hg.1,fun b _ hb=>by obtain⟨l,_,_,h1,_⟩:=hb;simp at h1,hg.2.2⟩
 suffices key:Calls Tryz.prog 19 vs.toArray w (bS none S [] [] w (nG 81 54 20 call (cU aB args) []))from key.mono fun en w' hp=>p9 hw hh hp
 generalize cU aB args=ar at hr' hv' |-;clear hr hv hh hg;unfold nG at hr' |-;split at hr'
 case h_2=>exact absurd rfl hr'
 rename_i t s _;cases ho:bo 2 t with
 |false=>rw[ho]at hr';exact absurd rfl hr'
 | true=>
  rw[ho]at hr';simp only[F9]at hr' |-;simp only[aP]at hv';obtain⟨vt,r,rfl,ht,hv'⟩:=hv';obtain⟨xv,r',rfl,hxv,rfl⟩:=hv';simp only[VR]at hxv;obtain⟨x,rfl,hx⟩:=hxv;obtain⟨g1,g2,g3⟩:=dC ho ht;obtain⟨tc,rfl⟩:=qn (by decide) ho;have ht0:=ht;simp only[VR]at ht;obtain⟨us,rfl,hus⟩:=ht;simp only[Value.cells]at g1 g3
  match us,g1 with
  | [k,f],_=>
   clear hus g2;have hk:=g3 k (by simp);have hf:=g3 f (by simp);refine uD k f hk hf x w _ ?_;have hs0:=wV w k f x;have hold:=yY w k f x;have hX:a7 S [(w.heap.size+3,1)] (r6 w k f x) [[AV.str s]]:=FY (β:=[]) (h:=[]) a7.nil hw hold (by omega) (yZ w k f x) (by simp only[aP,VR];exact⟨_,_,rfl,⟨x,rfl,hx⟩,rfl⟩) (fun t' ht=>by obtain⟨a,ha,hb⟩:=ht;rw[Hs.1 ha]at hb;cases hb);have hG:kz S [(w.heap.size+3,1)] [[AV.str s]] (r6 w k f x):=⟨hg'.1.mono fun b hb=>hold b (GD hb hg'.1.lt),fun b hb ho=>by have:=sW ho;have:=hg'.1.lt;omega,hg'.2.2⟩;have hne:call 54 [.hp 0 0,.int .i64 4] [[AV.str s]]≠.fail:=fun e=>hr' (by rw[qA];unfold af;rw[e];rfl);have hc:=(hC 54 [.hp 0 0,.int .i64 4] [[AV.str s]] S [(w.heap.size+3,1)] (r6 w k f x) [.pointer (some ⟨w.heap.size+3,0,none⟩),.int .i64 4] hne hG (hw.grow hold) hX (by simp only[aP,VR];exact⟨_,_,rfl,⟨(w.heap.size+3,1),rfl,by simp,rfl⟩,_,_,rfl,rfl,rfl⟩)).1;refine hc.mono fun en w1 hp=>?_;have rows:∀S1 β1 h1,Go.Av.Left (a8 [(w.heap.size+3,1)] [[AV.str s]]) S [(w.heap.size+3,1)] (r6 w k f x) S1 β1 w1 h1->RdRows w.heap.size w1 k f (.int .i64 0) (.int .i64 0) (.slice none 0 0) (.slice none 0 0):=fun S1 β1 h1 L=>(wU w k f x).keep fun j hj=>(L.keep _ (by omega) (fun ho=>by have:=sW ho;omega)).1;rw[qA]at hr' |-;unfold af at hr' |-;generalize call 54 [.hp 0 0,.int .i64 4] [[AV.str s]]=r at hr' hne hp |-;cases r with
   |fail=>exact absurd rfl hne
   |pan pv h1=>
    obtain⟨S1,β1,z,rfl,hz,L⟩:=hp;obtain⟨rfl,hcr⟩:=ie hr'
    have:=tq hz
    subst this;have LL:=np (β:=[]) (h:=[]) hw a7.nil (tt w k f x) hold (by simp) L;refine⟨rows _ _ _ L,.inr ⟨rfl,?_⟩⟩;show bS none S [] [] w (ej 81 (.pan (.iface 81 (.agg [])) h1)) _ _;rw[hcr]
    have:=L.size
    exact gL hw LL.gro (by omega) fun b hb=>(LL.keep b hb (fun ho=>by obtain⟨l,_,_,q1,_⟩:=ho;simp at q1)).1
   | ok v h1=>
    obtain⟨S1,β1,z,rfl,hz,L,-⟩:=hp;have hR1:=rows _ _ _ L;have hs1:=L.size;have hown:∀b,w.heap.size<=b->b<w.heap.size+3->¬a8 β1 h1 b/\∀o,S1 b o=none:=fun b hb1 hb2=>by
     refine⟨fun ho=>?_,fun o=>?_⟩
     ·rcases L.owned b ho with ho|ho
      ·have:=sW ho;omega
      ·omega
     ·rw[(L.keep b (by omega) (fun ho=>by have:=sW ho;omega)).2 o];exact hw.none hb1 o
    have LL:=np (β:=[]) (h:=[]) hw a7.nil (tt w k f x) hold (by simp) L;change ej 81 (nK call (.agg tc) v h1)≠.fail at hr';show o4 w.heap.size k f (bS none S [] [] w (ej 81 (nK call (.agg tc) v h1))) _ _;obtain⟨hok,s',hrow,e3⟩:=xp call (.agg tc) v h1 hr';rw[e3]at hr' |-;refine⟨hR1,.inl ?_⟩;obtain⟨hlen,ω,hHr⟩:=L.heap;have hb0:β1[0]? = some (w.heap.size+3,1):=L.ext 0 _ rfl;obtain⟨y',q1,⟨ty,q2⟩,_,q4,_⟩:=hHr.cells hrow (by simp) hb0 (by decide);simp only[aP,VR]at q4;obtain⟨_,_,q5,⟨y,rfl,hy⟩,rfl⟩:=q4;have hyc:w1.cell? ⟨w.heap.size+3,0,none⟩=some (.string y):=by
     have h0:y'[0]? = some (.string y):=by
      have:=Gb (fun l=>l[0]?) q5
      simpa using this
     simp[World.cell?,q2,h0]
    obtain⟨p1,p2,p3⟩:=dC hok hz;have hz0:=hz;obtain⟨vc,rfl⟩:=qn (by decide) hok;simp only[VR]at hz;obtain⟨us,rfl,hus⟩:=hz;simp only[Value.cells]at p1 p3
    match us,p1 with
    | [u0,u1,u2,u3],_=>
     refine⟨u0,u1,u2,u3,y,p3 u0 (by simp),p3 u1 (by simp),p3 u2 (by simp),p3 u3 (by simp),rfl,hyc,?_⟩;have L2:=LL.store (w2:=f9 (w.heap.size+1) w1 u0 u1 u2 u3) (jg _ _ _ _ _ _) (fun b=>w.heap.size<=b/\b<w.heap.size+3) (fun b hb=>⟨hb.1,hown b hb.1 hb.2⟩) (fun b hb=>jK (by omega));have hs2:w.heap.size+4<=(f9 (w.heap.size+1) w1 u0 u1 u2 u3).heap.size:=by have:=(jg (w.heap.size+1) w1 u0 u1 u2 u3).size;omega
     cases hse:s'.isEmpty with
     |false=>
      refine .inl ⟨?_,?_⟩
      ·rw[ByteArray.toList_eq,hy,hse]
      ·exact gL hw L2.gro (by omega) fun b hb=>(L2.keep b hb (fun ho=>by obtain⟨l,_,_,q1,_⟩:=ho;simp at q1)).1
     | true=>
      rw[hse]at hr';refine .inr ⟨?_,?_⟩
      ·have:s'=[]:=List.isEmpty_iff.1 hse;subst this;obtain⟨⟨l⟩⟩:=y;simp only at hy;rw[hy]
      ·exact wy call hC hw (ww hg' L2) L2 hs2 hown (hR1.put u0 u1 u2 u3) (ht0.mono L2.le (cq.nil _)) hz0 hok hr'
noncomputable def tY(n:Nat)(a:Ann):Cx:={ T:=T,call:=fun _ _=>c7,own:=own,iso:=fun _=>false,nw:=fun _=>false,nt:=n,ann:=a }
def mV(n:Nat)(a:Ann):bD Tryz.prog (tY n a).own (tY n a).call:=fun f args h S β w vs hr=>absurd rfl hr
def sO(n:Nat)(a:Ann):IsoCall (tY n a):=⟨fun f args h=>Bool.noConfusion h,fun f args h=>Bool.noConfusion h⟩
def Dm(e:AV)(es:List AV):bN (tY Tryz.f249.ntmps nU) (bU 0) Tryz.f249 none [.sl (e:: es)]=af (appH T 30 true (.sl []) (.sl (e:: es))) fun v=>af (aj (some v)) aw:=by kernel_rfl
def Dn:bN (tY Tryz.f249.ntmps nU) (bU 0) Tryz.f249 none [.hn]=af (aj (some (.sl []))) aw:=by kernel_rfl
def Do(l off:Nat):bN (tY Tryz.f249.ntmps nU) (bU 0) Tryz.f249 none [.hs l off 0 1 false]=af (appH T 30 true (.sl []) (.hs l off 0 1 false)) fun v=>af (aj (some v)) aw:=by kernel_rfl
def Di(e:AV)(es:List AV):bN (tY Tryz.f219.ntmps nT) (bU 0) Tryz.f219 none [.sl (e:: es)]=af (aj (ew T 22 (.sl []) (.sl (e:: es)))) fun v=>af (aj (some v)) aw:=by kernel_rfl
def Dj:bN (tY Tryz.f219.ntmps nT) (bU 0) Tryz.f219 none [.hn]=af (aj (some (.sl []))) aw:=by kernel_rfl
def Dk(l off:Nat):bN (tY Tryz.f219.ntmps nT) (bU 0) Tryz.f219 none [.hs l off 0 1 false]=af (aj (ew T 22 (.sl []) (.hs l off 0 1 false))) fun v=>af (aj (some v)) aw:=by kernel_rfl
def Dl(l off:Nat):ew T 22 (.sl []) (.hs l off 0 1 false)=some (.sl []):=by rfl
def BE(call:FuncId->List AV->M AV)(args:List AV)(h:Hp)(S:ap)(β:List aZ)(w:World)(vs:List Value)(hr:eZ T 30 call args h≠.fail)(hg:kz S β h w)(hw:Wf S w)(hh:a7 S β w h)(hv:aP S β args vs):
  Calls Tryz.prog 249 vs.toArray w (bS none S β h w (eZ T 30 call args h)):=by
 have key:∀es,args=[.sl es]->Calls Tryz.prog 249 vs.toArray w (bS none S β h w (eZ T 30 call args h)):=by
  rintro es rfl;exact (jZ (cx:=tY Tryz.f249.ntmps nU) (E:=fun es h=>eZ T 30 call [.sl es] h) tok (mV _ _) (sO _ _) Tryz.func249 rfl (fun h=>by rfl) (fun e es h=>by rw[Dm];exact congrFun (vK _) h) (fun h=>by rw[Dn];rfl) (fun l off h=>by rw[Do];rfl) hr hg hw hh hv).1
 unfold eZ at hr;split at hr
 ·exact key _ rfl
 ·exact absurd rfl hr
def BD(call:FuncId->List AV->M AV)(args:List AV)(h:Hp)(S:ap)(β:List aZ)(w:World)(vs:List Value)(hr:gp T 22 call args h≠.fail)(hg:kz S β h w)(hw:Wf S w)(hh:a7 S β w h)(hv:aP S β args vs):
  Calls Tryz.prog 219 vs.toArray w (bS none S β h w (gp T 22 call args h)):=by
 have key:∀es,args=[.sl es]->Calls Tryz.prog 219 vs.toArray w (bS none S β h w (gp T 22 call args h)):=by
  rintro es rfl;exact (jZ (cx:=tY Tryz.f219.ntmps nT) (E:=fun es h=>gp T 22 call [.sl es] h) tok (mV _ _) (sO _ _) Tryz.func219 rfl (fun h=>by rfl) (fun e es h=>by rw[Di];exact congrFun (vK _) h) (fun h=>by rw[Dj];rfl) (fun l off h=>by rw[Dk,Dl];rfl) hr hg hw hh hv).1
 unfold gp at hr;split at hr
 ·exact key _ rfl
 ·exact absurd rfl hr
def CB:Prop:=∀call,bD Tryz.prog own call->∀(args:List AV)(h:Hp)(S:ap)(β:List aZ)(w:World)(vs:List Value),sx 39 .i64 (.agg [.int .i64 0,.int .i64 0,.sl [],.sl []]) call args h≠.fail->kz S β h w->Wf S w->a7 S β w h->aP S β args vs->
 Calls Tryz.prog 132 vs.toArray w (bS none S β h w (sx 39 .i64 (.agg [.int .i64 0,.int .i64 0,.sl [],.sl []]) call args h))
def jN(w:World):World:=(w.alloc (Obj.cells #[Value.int IntKind.i64 0,Value.int IntKind.i64 0,Value.slice none 0 0,Value.slice none 0 0] 45)).alloc (Obj.cells #[Value.int IntKind.i64 0] 39)
def sy(w w':World)(u0 u1 u2 u3 e:Value):World:=((((w'.setCell ⟨w.heap.size,0,none⟩ u0).setCell ⟨w.heap.size,1,none⟩ u1).setCell ⟨w.heap.size,2,none⟩ u2).setCell ⟨w.heap.size,3,none⟩ u3).setCell ⟨w.heap.size+1,0,none⟩ e
def Ft(w:World)(R:Ending->World->Prop):Ending->World->Prop:=fun e w'=>
 w'.heap[w.heap.size]? = (jN w).heap[w.heap.size]? /\w'.heap[w.heap.size+1]? = (jN w).heap[w.heap.size+1]? /\
 ((∃u0 u1 u2 u3:Value,u0.oneCell'=true/\u1.oneCell'=true/\u2.oneCell'=true/\u3.oneCell'=true/\e= .returned (.agg #[u0,u1,u2,u3])/\R (.returned (.tuple #[.agg #[u0,u1,u2,u3],.int .i64 0])) (sy w w' u0 u1 u2 u3 (.int .i64 0)))\/
  ∃n,e= .panicked [{ v:=.iface 39 (.int .i64 n),recovered:=false }]/\R (.returned (.tuple #[.agg #[.int .i64 0,.int .i64 0,.slice none 0 0,.slice none 0 0],.int .i64 n])) (sy w w' (.int .i64 0) (.int .i64 0) (.slice none 0 0) (.slice none 0 0) (.int .i64 n)))
set_option maxHeartbeats 4000000 in
def xu(g:FuncId)(x y:Array Value)(w:World)(R:Ending->World->Prop)(hfn:(Tryz.prog.funcs[g]?).any (fun fn=>fn.body.isSome&&!(fn.name== "runtime.NumGoroutine"))=true)(hc:Calls Tryz.prog g (x++y) (jN w) (Ft w R)):Calls Tryz.prog 132 #[.func (.func g) x y] w R:=by
 have hmf:∀(fn:Fn)(first cap:Array Value)(w:World),(Instr.makeFunc fn first cap).run Tryz.prog w= .ok (.func fn first cap) w:=fun _ _ _ _=>rfl
 go_enter_defers Tryz.func132,Tryz.ntmps132
 go_wp2
 rw[ey hfn,Oper.upon_enter];refine hc.mono fun e w' h=>?_;obtain⟨k0,k1,h⟩:=h;have r0:w'.heap[w.heap.size]? = some (.cells #[Value.int IntKind.i64 0,Value.int IntKind.i64 0,Value.slice none 0 0,Value.slice none 0 0] 45):=by rw[k0];exact (Go.Av.alloc_old _ _ (by simp)).trans (heap_alloc_new w _)
 have r1:w'.heap[w.heap.size+1]? = some (.cells #[Value.int IntKind.i64 0] 39):=by rw[k1];have:=heap_alloc_new (w.alloc (Obj.cells #[Value.int IntKind.i64 0,Value.int IntKind.i64 0,Value.slice none 0 0,Value.slice none 0 0] 45)) (Obj.cells #[Value.int IntKind.i64 0] 39);rwa [World.size_alloc]at this
 have c0:w'.cell? ⟨w.heap.size,0,none⟩=some (.int .i64 0):=by simp[World.cell?,r0]
 have c1:w'.cell? ⟨w.heap.size,1,none⟩=some (.int .i64 0):=by simp[World.cell?,r0]
 have c2:w'.cell? ⟨w.heap.size,2,none⟩=some (.slice none 0 0):=by simp[World.cell?,r0]
 have c3:w'.cell? ⟨w.heap.size,3,none⟩=some (.slice none 0 0):=by simp[World.cell?,r0]
 have d0:w'.cell? ⟨w.heap.size+1,0,none⟩=some (.int .i64 0):=by simp[World.cell?,r1]
 have f0:w'.frozen? ⟨w.heap.size,0,none⟩=false:=by simp[World.frozen?,r0]
 have f1:w'.frozen? ⟨w.heap.size,1,none⟩=false:=by simp[World.frozen?,r0]
 have f2:w'.frozen? ⟨w.heap.size,2,none⟩=false:=by simp[World.frozen?,r0]
 have f3:w'.frozen? ⟨w.heap.size,3,none⟩=false:=by simp[World.frozen?,r0]
 have g0:w'.frozen? ⟨w.heap.size+1,0,none⟩=false:=by simp[World.frozen?,r1]
 clear k0 k1 r0 r1 hc hmf;rcases h with⟨u0,u1,u2,u3,o0,o1,o2,o3,rfl,hR⟩|⟨n,rfl,hR⟩
 ·simp only;rename_i K1 hK1 K hK;apply hK;clear hK;have hK1':=hK1;clear hK1;have s0:∀a m (w:World),(store a u0 m).run Tryz.prog w=stored Tryz.prog w a u0 m:=fun a m w=>run_store _ w a u0 m o0;have s1:∀a m (w:World),(store a u1 m).run Tryz.prog w=stored Tryz.prog w a u1 m:=fun a m w=>run_store _ w a u1 m o1;have s2:∀a m (w:World),(store a u2 m).run Tryz.prog w=stored Tryz.prog w a u2 m:=fun a m w=>run_store _ w a u2 m o2;have s3:∀a m (w:World),(store a u3 m).run Tryz.prog w=stored Tryz.prog w a u3 m:=fun a m w=>run_store _ w a u3 m o3
  go_wp2
  change Leaves _ _ _ _ _ _ _;refine leaves_cons (f:=165) (args:=#[.pointer (some ⟨w.heap.size,0,none⟩),.pointer (some ⟨w.heap.size+1,0,none⟩)]) (by simp) (by simp[go_sem]) ?_;refine (re ⟨w.heap.size,0,none⟩ ⟨w.heap.size+1,0,none⟩ _).mono ?_;rintro e u' w'' ⟨rfl,rfl,rfl⟩;simp only[Leaves,settle];refine⟨_,?_,hR⟩;simp[results,Tryz.results132,go_sem,sy,World.cell?_setCell_same,c0,c1,c2,c3,d0]
 ·change Leaves _ _ _ _ _ _ _;refine leaves_cons (f:=165) (args:=#[.pointer (some ⟨w.heap.size,0,none⟩),.pointer (some ⟨w.heap.size+1,0,none⟩)]) (by simp) (by simp[go_sem]) ?_;refine (tW w.heap.size (w.heap.size+1) _ _ _ _ _ n w' c0 c1 c2 c3 d0 f0 f1 f2 f3 g0 (by omega) (by omega)).mono ?_;rintro e u' w'' ⟨rfl,rfl,rfl⟩;simp only[Leaves,settle];refine⟨_,?_,hR⟩;simp[results,Tryz.results132,go_sem,sy,World.cell?_setCell_same,c0,c1,c2,c3,d0]
def jO(w:World):(jN w).heap.size=w.heap.size+2:=by simp[jN]
def xt(w:World)(b:Nat)(hb:b<w.heap.size):(jN w).heap[b]? = w.heap[b]?:=by
 unfold jN;rw[Go.Av.alloc_old _ _ (by simp;omega),Go.Av.alloc_old _ _ hb]
def qO(w:World):Gro w (jN w):=(Gro.alloc w _ _).trans (Gro.alloc _ _ _)
def qN(w w':World)(u0 u1 u2 u3 e:Value):Gro w' (sy w w' u0 u1 u2 u3 e):=
 ((((Gro.setCell _ _ _).trans (Gro.setCell _ _ _)).trans (Gro.setCell _ _ _)).trans (Gro.setCell _ _ _)).trans (Gro.setCell _ _ _)
def nL(w w':World)(u0 u1 u2 u3 e:Value)(b:Nat)(hb:¬(w.heap.size<=b/\b<(jN w).heap.size)):(sy w w' u0 u1 u2 u3 e).heap[b]? = w'.heap[b]?:=by
 rw[jO]at hb;unfold sy;rw[aG (by simp;omega),aG (by simp;omega),aG (by simp;omega),aG (by simp;omega),aG (by simp;omega)]
def tV{call:FuncId->List AV->M AV}{f:AV}{xs:List AV}{h:Hp}(hr:bJ call f xs h≠.fail):∃g a c,f= .fn (.func g) a c:=by
 unfold bJ at hr;split at hr
 ·exact⟨_,_,_,rfl⟩
 ·exact absurd rfl hr
theorem BP:CB:=by
 intro call hC args h S β w vs hr hg hw hh hv
 have key:∀f,args=[f]->Calls Tryz.prog 132 vs.toArray w (bS none S β h w (sx 39 .i64 (.agg [.int .i64 0,.int .i64 0,.sl [],.sl []]) call args h)):=by
  rintro f rfl;have ht:sx 39 .i64 (.agg [.int .i64 0,.int .i64 0,.sl [],.sl []]) call [f] h=xr 39 .i64 (.agg [.int .i64 0,.int .i64 0,.sl [],.sl []]) (bJ call f [] h):=rfl;rw[ht]at hr |-;clear ht;simp only[aP]at hv;obtain⟨fv,_,rfl,hv,rfl⟩:=hv;have hne:bJ call f [] h≠.fail:=fun e=>by rw[e]at hr;exact hr rfl
  obtain⟨g,a,c,rfl⟩:=tV hne
  ·have hcv:bJ call (.fn (.func g) a c) [] h=call g (a++[]++c) h:=rfl;rw[hcv]at hr hne |-;simp only[VR]at hv;obtain⟨x,y,rfl,hx,hy⟩:=hv;have hold:=xt w;have hv2:aP S β (a++[]++c) (x++y):=by simpa using hx.append hy
   obtain⟨hcall,hfn⟩:=hC g (a++[]++c) h S β (jN w) (x++y) hne ⟨hg.1.mono fun b hb=>hold b (GD hb hg.1.lt),hg.2⟩ (hw.grow hold) (hh.grow hold) hv2;refine xu g x.toArray y.toArray w _ hfn ?_;have e:(x++y).toArray=x.toArray++y.toArray:=by simp
   rw[<- e];refine hcall.mono fun en w' hp=>?_;have kk:∀S' β' h',Go.Av.Left (a8 β h) S β (jN w) S' β' w' h'->w'.heap[w.heap.size]? = (jN w).heap[w.heap.size]? /\w'.heap[w.heap.size+1]? = (jN w).heap[w.heap.size+1]?:=fun S' β' h' L=>
    ⟨(L.keep _ (by rw[jO];omega) fun ho=>by have:=hh.low ho;omega).1,(L.keep _ (by rw[jO];omega) fun ho=>by have:=hh.low ho;omega).1⟩
   generalize call g (a++[]++c) h=r at hr hne hp |-;cases r with
   |fail=>exact absurd rfl hne
   | ok v h'=>
    obtain⟨S',β',u,rfl,hu,L,_⟩:=hp;refine⟨(kk _ _ _ L).1,(kk _ _ _ L).2,.inl ?_⟩;simp only[xr]at hr |-;cases hok:bo 4 v with
    |false=>rw[hok]at hr;exact absurd rfl hr
    | true=>
     obtain⟨g1,g2,g3⟩:=dC hok hu;have hcs:∃cs,v= .agg cs:=by
      simp only[bo,F8]at hok;have h1:=hok.1;cases v<;>simp[bP]at h1;exact⟨_,rfl⟩
     obtain⟨cs,rfl⟩:=hcs;simp only[VR]at hu;obtain⟨us,rfl,hus⟩:=hu;simp only[Value.cells]at g1 g3
     match us,g1 with
     |[u0,u1,u2,u3],_=>
      refine⟨u0,u1,u2,u3,g3 u0 (by simp),g3 u1 (by simp),g3 u2 (by simp),g3 u3 (by simp),rfl,S',β',_,rfl,?_,nq (qO w) hold L (qN ..) (fun b hb=>nL w w' _ _ _ _ _ b hb) hw hh,fun sz hsz=>by cases hsz⟩;simp only[VR,aP];exact⟨[.agg #[u0,u1,u2,u3],.int .i64 0],rfl,_,_,rfl,⟨[u0,u1,u2,u3],rfl,hus⟩,_,_,rfl,rfl,rfl⟩
   | pan v h'=>
    obtain⟨S',β',u,rfl,hu,L⟩:=hp;refine⟨(kk _ _ _ L).1,(kk _ _ _ L).2,.inr ?_⟩;unfold xr at hr |-;split at hr
    ·rename_i heq;cases heq
    ·rename_i t' k' n h'' heq;cases heq;cases hb:(Nat.beq t' 39&&decide (k'=IntKind.i64))with
     |false=>rw[hb]at hr;exact absurd rfl hr
     |true=>
      simp only[F8,Ge]at hb;obtain⟨hb1,rfl⟩:=hb
      have:=Gh hb1
      subst this;simp only[VR]at hu;obtain⟨u',rfl,rfl⟩:=hu;refine⟨n,rfl,S',β',_,rfl,?_,nq (qO w) hold L (qN ..) (fun b hb=>nL w w' _ _ _ _ _ b hb) hw hh,fun sz hsz=>by cases hsz⟩;simp only[VR,aP];refine⟨[.agg #[.int .i64 0,.int .i64 0,.slice none 0 0,.slice none 0 0],.int .i64 n],rfl,_,_,rfl,⟨[.int .i64 0,.int .i64 0,.slice none 0 0,.slice none 0 0],rfl,_,_,rfl,rfl,_,_,rfl,rfl,_,_,rfl,?_,_,_,rfl,?_,rfl⟩,_,_,rfl,rfl,rfl⟩
      ·exact⟨none,0,rfl,Ga _,fun _=>rfl,fun q hq=>by cases hq⟩
      ·exact⟨none,0,rfl,Ga _,fun _=>rfl,fun q hq=>by cases hq⟩
    ·exact absurd rfl hr
 rcases args with _|⟨f,_|⟨f2,r⟩⟩
 ·exact absurd rfl hr
 ·exact key _ rfl
 ·exact absurd rfl hr
end Go.Proofs.YtihmmkncokjbaaaGreatDoor
namespace Go.Proofs.YtihmmkncokjbaaaGreatDoor
open Go Go.Av Go.RowKit Go.Shelf
attribute [local go_sem] Oper.semAt_some
abbrev b9:=ByteArray×Int×(Option Addr×Nat×Nat)
def b9.k(x:b9):Value:=.int .i64 x.2.1
def b9.f(x:b9):Value:=.slice x.2.2.1 x.2.2.2.1 x.2.2.2.2
def uF(x:b9):Value:=.agg #[.string x.1,x.k,x.f]
def back(zs:List b9)(k:Nat):List (Nat×b9):=(List.range k).map fun j=>(zs.length-1-j,zs[zs.length-1-j]?.getD default)
def mQ(zs:List b9)(k:Nat):back zs (k+1)=back zs k++[(zs.length-1-k,zs[zs.length-1-k]?.getD default)]:=by simp[back,List.range_succ]
def pe(zs:List b9)(k:Nat):(back zs k).length=k:=by simp[back]
def kN(W:World)(b off:Nat)(zs:List b9):Prop:=∀j,j<zs.length->W.cell? ⟨b,off+j*3,none⟩=some (.string (zs[j]?.getD default).1)/\W.cell? ⟨b,off+j*3+1,none⟩=some (zs[j]?.getD default).k/\W.cell? ⟨b,off+j*3+2,none⟩=some (zs[j]?.getD default).f
def kN.below{n₀:Nat}{A B:World}(h:Below n₀ A B){b off:Nat}(hb:b<n₀){zs:List b9}(c:kN A b off zs):kN B b off zs:=fun j hj=>by
 obtain⟨h1,h2,h3⟩:=c j hj;exact⟨(h.cell (p:=⟨b,_,none⟩) hb).trans h1,(h.cell (p:=⟨b,_,none⟩) hb).trans h2,(h.cell (p:=⟨b,_,none⟩) hb).trans h3⟩
set_option maxRecDepth 100000 in
set_option maxHeartbeats 2000000 in
def Bh(F:Fence)(n:Nat)(h7:F.fn 203)(hro:F.round=none)(hn:1<=n)(l Bs n₀ b off cap:Nat)(zs:List b9)(hreach:zs.length<=1000000000)(hb:b<n₀)(hBn:Bs<n₀)(J Jx:List (Nat×b9)->World->Prop)
  (hY:∀pre x W,J pre W->pre.length<zs.length->YieldAt F (n-1) Tryz.prog l #[.int .i64 (x.1:Int),uF x.2] W fun e W'=>
   (e= .returned (.bool true)/\J (pre++[x]) W'/\Below n₀ W W')\/(e= .returned (.bool false)/\Jx (pre++[x]) W'))
  (W:World) (hBs:W.cell? ⟨Bs,0,none⟩=some (.slice (some ⟨b,off,none⟩) zs.length cap)) (hc:kN W b off zs) (h0:J [] W):
  CallsIn F n Tryz.prog 203 #[.func (.yield l) #[] #[],.pointer (some ⟨Bs,0,none⟩)] W fun e W'=>(∃v,e= .returned v)/\
   ((∃ys,ys=back zs zs.length/\J ys W')\/(∃pre,(∃k,k<=zs.length/\pre=back zs k)/\Jx pre W')):=by
 refine callsIn_of_wp Tryz.func203 rfl h7 ?_ hro;simp only[Tryz.ntmps203,Hm,Gu,GM,Nat.reduceAdd,Nat.reduceSub,HS,HT,H9,HW,GQ,GJ]
 gi_wp2
 gi_loopw [3] (fun i wr=>∃k:Nat,k<=zs.length/\i= .int .i64 ((zs.length:Int)-1-k)/\J (back zs k) wr/\Below n₀ W wr)
  (fun i _=>(intOf i+1).toNat)
 case atStart=>exact⟨0,Hi _,by simp,h0,Below.refl _ _⟩
 case round=>
  obtain⟨k,hk,rfl,hJs,hnx⟩:=hrel;have hbs:wr.cell? ⟨Bs,0,none⟩=some (.slice (some ⟨b,off,none⟩) zs.length cap):=(hnx.cell (p:=⟨Bs,0,none⟩) hBn).trans hBs;by_cases hlt:k<zs.length
  ·obtain⟨fn,tmps,assign,body,hy,hR⟩:=hY _ (zs.length-1-k,zs[zs.length-1-k]?.getD default) wr hJs (by rw[pe];exact hlt);dsimp only at hy;obtain⟨m,hm⟩:∃m:Nat,(zs.length:Int)-1-k=m:=⟨zs.length-1-k,by omega⟩;have hm':zs.length-1-k=m:=by omega
   rw[hm']at hy hR;rw[hm];obtain⟨c1,c2,c3⟩:=(hc.below hnx hb) m (by omega);generalize hz:zs[m]?.getD default=z at hy hR c1 c2 c3;obtain⟨z1,z2,z3,z4,z5⟩:=z;have hml:m<zs.length:=by omega
   simp only[uF,b9.k,b9.f]at hy c2 c3
   gi_wp2
   refine hR.mono ?_;rintro e W3 (⟨rfl,hJ3,hk3⟩|⟨rfl,hJx3⟩)
   ·gi_wp2
    go_roundw
    case rel=>exact⟨k+1,by omega,by congr 1;omega,by rw[mQ,hm',hz];exact hJ3,hnx.trans hk3⟩
    case measure=>simp[intOf]<;>omega
   ·gi_wp2
    refine bodyPost_ret (results_none rfl _ _ _) rfl ?_;exact⟨⟨_,rfl⟩,.inr ⟨_,⟨k+1,by omega,by rw[mQ,hm',hz]⟩,hJx3⟩⟩
  ·obtain rfl:k=zs.length:=by omega
   gi_wp2
   go_end0
   exact⟨⟨_,rfl⟩,.inl ⟨_,rfl,hJs⟩⟩
set_option maxRecDepth 100000 in
set_option maxHeartbeats 1000000 in
def rO(F:Fence)(n:Nat)(h7:F.fn 203)(hro:F.round=none)(l Bs:Nat)(p:Option Addr)(cap:Nat)(J:List (Nat×b9)->World->Prop)(W:World)(hBs:W.cell? ⟨Bs,0,none⟩=some (.slice p 0 cap))(h0:J [] W):
  CallsIn F n Tryz.prog 203 #[.func (.yield l) #[] #[],.pointer (some ⟨Bs,0,none⟩)] W fun e W'=>(∃v,e= .returned v)/\J [] W':=by
 refine callsIn_of_wp Tryz.func203 rfl h7 ?_ hro;simp only[Tryz.ntmps203,Hm,Gu,GM,Nat.reduceAdd,Nat.reduceSub,HS,HT,H9,HW,GQ,GJ]
 gi_wp2
 gi_loopw [3] (fun i wr=>i= .int .i64 (-1)/\J [] wr) (fun _ _=>0)
 case atStart=>exact⟨rfl,h0⟩
 case round=>
  obtain⟨rfl,hJs⟩:=hrel
  gi_wp2
  go_end0
  exact⟨⟨_,rfl⟩,hJs⟩
set_option maxHeartbeats 1000000 in
def DL(F:Fence)(n:Nat)(h5:F.fn 154)(hro:F.round=none)(a:Option Addr)(len cap:Nat)(w:World):
  CallsIn F n Tryz.prog 154 #[.slice a len cap] w fun e w'=>e= .returned (.func (.func 203) #[] #[.pointer (some ⟨w.heap.size,0,none⟩)])/\w'=w.alloc (.cells #[.slice a len cap] 23):=by
 refine callsIn_of_wp Tryz.func154 rfl h5 ?_ hro;simp only[Tryz.ntmps154,Hm,Gu,GM,Nat.reduceAdd,Nat.reduceSub,HS,HT,H9,HW,GQ,GJ]
 gi_wp2
 go_ret
 exact⟨rfl,rfl⟩
def iL(n₀:Nat)(W:World)(sv:Value)(zs:List b9):Prop:=
 (zs=[]/\∃p cap,sv= .slice p 0 cap)\/∃b off cap,sv= .slice (some ⟨b,off,none⟩) zs.length cap/\b<n₀/\kN W b off zs
theorem iL.below{n₀:Nat}{A B:World}(h:Below n₀ A B){sv:Value}{zs:List b9}:iL n₀ A sv zs->iL n₀ B sv zs
 |.inl e=>.inl e
 |.inr ⟨b,off,cap,e,hb,hc⟩=>.inr ⟨b,off,cap,e,hb,hc.below h hb⟩
theorem iL.mono{n n':Nat}(h:n<=n'){W:World}{sv:Value}{zs:List b9}:iL n W sv zs->iL n' W sv zs
 |.inl e=>.inl e
 |.inr ⟨b,off,cap,e,hb,hc⟩=>.inr ⟨b,off,cap,e,GD hb h,hc⟩
def wH(F:Fence)(n:Nat)(h8:F.fn 203)(hro:F.round=none)(hn:1<=n)(Bs:Nat)(sv:Value)(zs:List b9)(hreach:zs.length<=1000000000)(w:World)(hBs:Bs<w.heap.size)(hc:w.cell? ⟨Bs,0,none⟩=some sv)(hI:iL w.heap.size w sv zs):
  SeqStopsK F n Tryz.prog 203 #[.pointer (some ⟨Bs,0,none⟩)] (fun x:Nat×b9=>#[Value.int .i64 (x.1:Int),uF x.2]) (Below w.heap.size) (fun ys=>ys=back zs zs.length)
   (fun pre=>∃k,k<=zs.length/\pre=back zs k) zs.length w:=fun l J Jx W hW _ _ hY h0=>by
 have hc':=(hW.cell (p:=⟨Bs,0,none⟩) hBs).trans hc;rcases hI.below hW with⟨rfl,p,cap,rfl⟩|⟨b,off,cap,rfl,hb,hcs⟩
 ·exact (rO F n h8 hro l Bs p cap J W hc' h0).mono fun e W' ⟨he,hj⟩=>⟨he,.inl ⟨_,rfl,hj⟩⟩
 ·exact Bh F n h8 hro hn l Bs w.heap.size b off cap zs hreach hb hBs J Jx hY W hc' hcs h0
def jG(zs:List b9)(x:ByteArray):Option b9:=zs.reverse.find? fun z=>decide (z.1=x)
def oq(zs:List b9)(x:ByteArray)(z0 z1:Value):Value:=match jG zs x with
 |some z=>.tuple #[.agg #[z.k,z.f],.bool true]
 |none=>.tuple #[.agg #[z0,z1],.bool false]
def pf(zs:List b9){k:Nat}(hk:k<=zs.length):(back zs k).map (·.2)=zs.reverse.take k:=by
 apply List.ext_getElem
 ·simp[back,hk]
 ·intro i h1 h2;have hi:i<k:=by simpa [back]using h1
  have h3:zs.length-1-i<zs.length:=by omega
  simp[back,h3]
def qc{zs:List b9}{x:ByteArray}(h:∀p∈back zs zs.length,p.2.1≠x):jG zs x=none:=by
 unfold jG;rw[List.find?_eq_none];intro z hz;have hm:=pf zs (Ga _);rw[Ia (by simp)]at hm;rw[<- hm]at hz;obtain⟨p,hp,rfl⟩:=H3.1 hz;simpa using h p hp
def qd{zs:List b9}{x:ByteArray}{k:Nat}(hk:k<=zs.length){ini:List (Nat×b9)}{last:Nat×b9}(e1:back zs k=ini++[last])(e2:∀p∈ini,p.2.1≠x)(e3:last.2.1=x):jG zs x=some last.2:=by
 have hm:=pf zs hk;rw[e1,Im]at hm;unfold jG;rw[<- Hl k zs.reverse,<- hm,GI,List.find?_append];have h1:(ini.map (·.2)).find? (fun z=>decide (z.1=x))=none:=by
  rw[List.find?_eq_none];intro z hz;obtain⟨p,hp,rfl⟩:=H3.1 hz;simpa using e2 p hp
 rw[h1];simp[e3]
def bH(W:World)(B:Nat)(t:TypeId)(cs:Array Value):Prop:=W.heap[B]? = some (.cells cs t (0,0))
def bH.lt{W:World}{B:Nat}{t:TypeId}{cs:Array Value}(h:bH W B t cs):B<W.heap.size:=(GF.1 h).1
def bH.cell{W:World}{B:Nat}{t:TypeId}{cs:Array Value}(h:bH W B t cs)(o:Nat):W.cell? ⟨B,o,none⟩=cs[o]?:=by simp[World.cell?,show W.heap[B]? = _ from h]
def bH.frozen{W:World}{B:Nat}{t:TypeId}{cs:Array Value}(h:bH W B t cs)(o:Nat):W.frozen? ⟨B,o,none⟩=false:=by simp[World.frozen?,show W.heap[B]? = _ from h]
def bH.new(W:World)(t:TypeId)(cs:Array Value):bH (W.alloc (.cells cs t)) W.heap.size t cs:=World.alloc_heap_new W _
def bH.kept{W W':World}{row:Option Nat}{B:Nat}{t:TypeId}{cs:Array Value}(h:bH W B t cs)(hg:W.grownBy W' row)(hne:some B≠row):bH W' B t cs:=(hg.block B h.lt hne).trans h
def bH.alloc{W:World}{B:Nat}{t:TypeId}{cs:Array Value}(h:bH W B t cs)(o:Obj):bH (W.alloc o) B t cs:=h.kept (World.grownBy_alloc W o none) (by simp)
def bH.put{W:World}{B:Nat}{t:TypeId}{cs:Array Value}(h:bH W B t cs){l:Nat}{o:Obj}(o':Obj)(hl:W.heap[l]? = some o)(ho:o.isCells=false):bH (W.putObj l o') B t cs:=
 h.kept (grownBy_putObj' W l o') (fun e=>by cases e;rw[show W.heap[B]? = _ from h]at hl;cases hl;cases ho)
def mE(W:World)(b o:Nat)(v:Value):W.grownBy (W.setCell ⟨b,o,none⟩ v) (some b):=
 ⟨rfl,rfl,rfl,(KeepsWalks.setCell W _ v).size,fun k _ hk=>Below.heap_setCell _ _ _ k (fun e=>hk (by rw[e]))⟩
def bH.other{W:World}{B B' o:Nat}{t:TypeId}{cs:Array Value}(h:bH W B t cs)(hne:B≠B')(u:Value):bH (W.setCell ⟨B',o,none⟩ u) B t cs:=h.kept (mE W B' o u) (fun e=>hne (by cases e;rfl))
def bH.set{W:World}{B:Nat}{t:TypeId}{cs:Array Value}(h:bH W B t cs)(o:Nat)(v:Value):bH (W.setCell ⟨B,o,none⟩ v) B t (cs.setIfInBounds o v):=by
 obtain⟨hlt,hk⟩:=GF.1 h;show (W.heap.modify B _)[B]? = _;rw[GT (by rw[Array.size_modify];exact hlt),Array.getElem_modify_self,hk];rfl
def vM{x y:ByteArray}(h:(x.toList== y.toList)=true):x=y:=by
 have:=GU.1 h
 rw[ByteArray.toList_eq,ByteArray.toList_eq]at this;exact ByteArray.ext (Hr this)
def vO{x y:ByteArray}(h:(x.toList== y.toList)=false):x≠y:=by
 rintro rfl;simp at h
def dQ{β:Type}(B:Nat)(t:TypeId)(f:β->Array Value):Own (fun s W=>bH W B t (f s)):=fun s X Y row hs hg hrow=>
 hs.kept hg (fun e'=>by obtain⟨o,ho,hc⟩:=hrow B e'.symm;rw[show X.heap[B]? = _ from hs]at ho;cases ho;cases hc)
set_option maxRecDepth 100000 in
set_option maxHeartbeats 4000000 in
def yG(F:Fence)(n:Nat)(h3:F.fn 112)(h5:F.fn 154)(h7:F.fn 203)(hro:F.round=none)(hn:3<=n)(a:Option Addr)(len cap:Nat)(x:ByteArray)(zs:List b9)(hreach:zs.length<=1000000000)(w:World)(hI:iL w.heap.size w (.slice a len cap) zs):
  CallsIn F n Tryz.prog 112 #[.slice a len cap,.string x] w fun e W'=>e= .returned (oq zs x (.int .i64 0) (.slice none 0 0))/\Below w.heap.size w W':=by
 have h1:1<=n:=by omega
 refine callsIn_of_wp_marks Tryz.func112 rfl h3 ?_ hro;simp only[Tryz.ntmps112,Hm,Gu,GM,Nat.reduceAdd,Nat.reduceSub,HS,HT,H9,HW,GQ,GJ]
 gi_wp2_with (gi_at_call 154;refine (DL F (n-1) h5 hro _ _ _ _).mono ?_;rintro e w' ⟨rfl,rfl⟩)
 have b0:=(((bH.new w 9 #[.string x]).alloc (.cells #[.int .i64 0,.slice none 0 0] 35)).alloc (.cells #[.bool false] 4)).alloc (.cells #[.slice a len cap] 23);have b1:=((bH.new (w.alloc (.cells #[.string x] 9)) 35 #[.int .i64 0,.slice none 0 0]).alloc (.cells #[.bool false] 4)).alloc (.cells #[.slice a len cap] 23);have b2:=(bH.new ((w.alloc (.cells #[.string x] 9)).alloc (.cells #[.int .i64 0,.slice none 0 0] 35)) 4 #[.bool false]).alloc (.cells #[.slice a len cap] 23);have b3:=bH.new (((w.alloc (.cells #[.string x] 9)).alloc (.cells #[.int .i64 0,.slice none 0 0] 35)).alloc (.cells #[.bool false] 4)) 23 #[.slice a len cap];simp only[World.size_alloc]at b1 b2 b3;have hB0:Below w.heap.size w ((((w.alloc (.cells #[.string x] 9)).alloc (.cells #[.int .i64 0,.slice none 0 0] 35)).alloc (.cells #[.bool false] 4)).alloc (.cells #[.slice a len cap] 23)):=
  ((((Below.refl _ w).alloc (Ga _) _).alloc (by simp) _).alloc (by simp;omega) _).alloc (by simp;omega) _
 have hsz:((((w.alloc (.cells #[.string x] 9)).alloc (.cells #[.int .i64 0,.slice none 0 0] 35)).alloc (.cells #[.bool false] 4)).alloc (.cells #[.slice a len cap] 23)).heap.size=w.heap.size+4:=by simp
 obtain⟨W0,hW0⟩:∃W0,((((w.alloc (.cells #[.string x] 9)).alloc (.cells #[.int .i64 0,.slice none 0 0] 35)).alloc (.cells #[.bool false] 4)).alloc (.cells #[.slice a len cap] 23))=W0:=⟨_,rfl⟩;rw[hW0]at b0 b1 b2 b3 hB0 hsz |-;clear hW0;refine wpIn_rangeFunc_ownH hro h1 (gf:=203) (lb:=#[.pointer (some ⟨w.heap.size+1+1+1,0,none⟩)]) rfl h7 (enters_of Tryz.func203 (by kernel_rfl) rfl)
  (wH F (n-1) h7 hro (by omega) (w.heap.size+1+1+1) _ zs hreach W0 (by omega) (b3.cell 0) ((hI.below hB0).mono (by omega))) belowK_t (belowK_b (Ga _)) (Below.refl _ _) (fun _=>rfl)
  (fun pre W=>(∀p∈pre,p.2.1≠x)/\(bH W w.heap.size 9 #[.string x]/\bH W (w.heap.size+1) 35 #[.int .i64 0,.slice none 0 0]/\bH W (w.heap.size+1+1) 4 #[.bool false]/\bH W (w.heap.size+1+1+1) 23 #[.slice a len cap])/\Below w.heap.size w W)
  (fun c pre W=>(c= .ret/\∃ini last,pre=ini++[last]/\(∀p∈ini,p.2.1≠x)/\last.2.1=x/\bH W (w.heap.size+1) 35 #[last.2.k,last.2.f]/\bH W (w.heap.size+1+1) 4 #[.bool true])/\Below w.heap.size w W)
  ?hI ?hIx ⟨fun _ h=>(by cases h),⟨b0,b1,b2,b3⟩,hB0⟩
  (fun y a' W=>∃Bx,bH W Bx 37 #[.string y.2.1,y.2.k,y.2.f]/\a'= { tmps:=#[.slice a len cap,.string x,undef,.pointer (some ⟨w.heap.size,0,none⟩),.pointer (some ⟨w.heap.size+1,0,none⟩),.pointer (some ⟨w.heap.size+1+1,0,none⟩),undef,.pointer (some ⟨Bx,0,none⟩),.slice a len cap,.func (.func 203) #[] #[.pointer (some ⟨w.heap.size+1+1+1,0,none⟩)],.int .i64 (y.1:Int),uF y.2,undef,undef,undef,undef,undef,undef,undef],defers:=[] })
  (fun y a' _ X Y row hs hg hr=>by obtain⟨Bx,h2,h3⟩:=hs;exact⟨Bx,dQ Bx 37 (fun(_:Unit)=>#[Value.string y.2.1,y.2.k,y.2.f]) () X Y row h2 hg (fun r e=>(hr r e).2),h3⟩)
  ?assign ?body ?done ?stop
 case hI=>exact OwnFrom.and (ownFrom_pure _ _) (OwnFrom.and (OwnFrom.and (Own.from (dQ _ _ _) _) (OwnFrom.and (Own.from (dQ _ _ _) _) (OwnFrom.and (Own.from (dQ _ _ _) _) (Own.from (dQ _ _ _) _)))) (ownFrom_below (Ga _) (by omega)))
 case hIx=>
  intro c;refine OwnFrom.and (Own.from (fun s A B row hs hg hr=>?_) _) (ownFrom_below (Ga _) (by omega));obtain⟨hc,ini,last,e1,e2,e3,e4,e5⟩:=hs;exact⟨hc,ini,last,e1,e2,e3,dQ _ _ (fun(_:Unit)=>#[last.2.k,last.2.f]) () A B row e4 hg hr,dQ _ _ (fun(_:Unit)=>#[Value.bool true]) () A B row e5 hg hr⟩
 case assign=>
  rintro l pre y W K ⟨hp,⟨r0,r1,r2,r3⟩,hB⟩ hK;obtain⟨yi,y1,y2,y3,y4,y5⟩:=y;simp only[uF,b9.k,b9.f]at hK |-
  gi_wp2
  exact hK _ _ ((KeepsOthers.alloc _ _).from _) ((Below.refl _ W).alloc (by have:=r3.lt;omega) _) ⟨hp,⟨r0.alloc _,r1.alloc _,r2.alloc _,r3.alloc _⟩,hB.alloc hB.size _⟩ ⟨W.heap.size,bH.new W _ _,rfl⟩
 case body=>
  rintro l pre y a' W hl ⟨r,hr⟩ ⟨hp,⟨r0,r1,r2,r3⟩,hB⟩ ⟨Bx,rx,rfl⟩ hlt;obtain⟨yi,y1,y2,y3,y4,y5⟩:=y;simp only[uF,b9.k,b9.f]at rx |-;have c0:=r0.cell 0;have tY:=rx.cell 0;have cx1:=rx.cell 1;have cx2:=rx.cell 2;have f10:=r1.frozen 0;have f11:=r1.frozen 1;have f20:=r2.frozen 0;have c10:=r1.cell 0;have c11:=r1.cell 1;have c20:=r2.cell 0;simp at c0 tY cx1 cx2 c10 c11 c20
  gi_wp2
  ·have hx:y1=x:=vM (by assumption);have r1':=((r1.set 0 (.int .i64 y2)).set 1 (.slice y3 y4 y5)).other (B':=w.heap.size+1+1) (o:=0) (by omega) (.bool true);have r2':=((r2.other (B':=w.heap.size+1) (o:=0) (by omega) (.int .i64 y2)).other (B':=w.heap.size+1) (o:=1) (by omega) (.slice y3 y4 y5)).set 0 (.bool true);exact⟨(((KeepsOthers.setCell _ _ _).trans (KeepsOthers.setCell _ _ _)).trans (KeepsOthers.setCell _ _ _)).from _,⟨rfl,pre,(yi,y1,y2,y3,y4,y5),rfl,hp,hx,r1',r2'⟩,
    ((hB.setCell (p:=⟨w.heap.size+1,0,none⟩) (by simp) _).setCell (p:=⟨w.heap.size+1,1,none⟩) (by simp) _).setCell (p:=⟨w.heap.size+1+1,0,none⟩) (by simp;omega) _⟩
  ·have hx:y1≠x:=vO (by assumption);exact⟨KeepsFrom.refl _ _,Below.refl _ _,fun p hp'=>(Gx.1 hp').elim (hp p) (fun e=>by simp at e;subst e;exact hx),⟨r0,r1,r2,r3⟩,hB⟩
 case done=>
  rintro D ys W hD rfl ⟨hne,⟨r0,r1,r2,r3⟩,hB⟩ hK;have f10:=r1.frozen 0;have f11:=r1.frozen 1;have f20:=r2.frozen 0;have c10:=r1.cell 0;have c11:=r1.cell 1;have c20:=r2.cell 0;simp at c10 c11 c20
  gi_wp2
  have r1':=((r1.set 0 (.int .i64 0)).set 1 (.slice none 0 0)).other (B':=w.heap.size+1+1) (o:=0) (by omega) (.bool false);have r2':=((r2.other (B':=w.heap.size+1) (o:=0) (by omega) (.int .i64 0)).other (B':=w.heap.size+1) (o:=1) (by omega) (.slice none 0 0)).set 0 (.bool false);have hB':=((hB.setCell (p:=⟨w.heap.size+1,0,none⟩) (by simp) (.int .i64 0)).setCell (p:=⟨w.heap.size+1,1,none⟩) (by simp) (.slice none 0 0)).setCell (p:=⟨w.heap.size+1+1,0,none⟩) (by simp;omega) (.bool false);have hK':=(((KeepsOthers.setCell W ⟨w.heap.size+1,0,none⟩ (.int .i64 0)).trans (KeepsOthers.setCell _ ⟨w.heap.size+1,1,none⟩ (.slice none 0 0))).trans (KeepsOthers.setCell _ ⟨w.heap.size+1+1,0,none⟩ (.bool false))).same D _ hK rfl;refine⟨by simp,.inl ⟨_,_,rfl,run_takeDeferred hK',?_⟩⟩;have q10:=(r1'.put (.deferred none) hK' rfl).cell 0;have q11:=(r1'.put (.deferred none) hK' rfl).cell 1;have q20:=(r2'.put (.deferred none) hK' rfl).cell 0;simp at q10 q11 q20;refine⟨.tuple #[.agg #[.int .i64 0,.slice none 0 0],.bool false],?_,?_,hB'.trans (belowK_b (w:=w) (Ga _) _ D _ _ (by omega) hK' rfl rfl)⟩
  rotate_left
  ·unfold oq;rw[qc hne]
  ·simp[results,Tryz.f112,go_sem,q10,q11,q20]
 case stop=>
  rintro D c pre W hD ⟨k,hk,rfl⟩ ⟨⟨rfl,ini,last,e1,e2,e3,r1,r2⟩,hB⟩ hK
  gi_wp2
  refine⟨by simp,.inl ⟨_,_,rfl,run_takeDeferred hK,?_⟩⟩;have q10:=(r1.put (.deferred none) hK rfl).cell 0;have q11:=(r1.put (.deferred none) hK rfl).cell 1;have q20:=(r2.put (.deferred none) hK rfl).cell 0;simp at q10 q11 q20;refine⟨.tuple #[.agg #[last.2.k,last.2.f],.bool true],?_,?_,hB.trans (belowK_b (w:=w) (Ga _) W D _ _ (by omega) hK rfl rfl)⟩
  rotate_left
  ·unfold oq;rw[qd hk e1 e2 e3]
  ·simp[results,Tryz.f112,go_sem,q10,q11,q20]
end Go.Proofs.YtihmmkncokjbaaaGreatDoor
namespace Go.Proofs.YtihmmkncokjbaaaGreatDoor
open Go Go.Av Go.RowKit
set_option maxRecDepth 100000
def Cp(S:ap)(β:List aZ)(y:List UInt8×Int×List AV)(z:b9):Prop:=z.1.data.toList=y.1/\z.2.1=y.2.1/\VR S β (.sl y.2.2) z.f
def ga(S:ap)(β:List aZ):List (List UInt8×Int×List AV)->List b9->Prop
 |[],zs=>zs=[]
 |y:: l,zs=>∃z r,zs=z:: r/\Cp S β y z/\ga S β l r
theorem ga.length{S:ap}{β:List aZ}:{l:List (List UInt8×Int×List AV)} ->{zs:List b9} ->ga S β l zs->zs.length=l.length
 |[],_,h=>by simp only[ga]at h;simp[h]
 |y:: l,zs,h=>by
  simp only[ga]at h;obtain⟨z,r,rfl,_,h⟩:=h;simp[ga.length h]
def ue{e:AV}{y:List UInt8×Int×List AV}(h:pF e=some y):e= .agg [.str y.1,.int .i64 y.2.1,.sl y.2.2]:=by
 unfold pF at h;split at h
 ·cases h;rfl
 ·cases h
theorem Dp{S:ap}{β:List aZ}{b sz:Nat}:(es:List AV)->(off:Nat)->(l:List (List UInt8×Int×List AV))->bg S β es b off sz->dL es=some l->
  ∃zs:List b9,ga S β l zs/\∀j,j<zs.length->S b (off+j*3)=some (.string (zs[j]?.getD default).1)/\S b (off+j*3+1)=some (zs[j]?.getD default).k/\S b (off+j*3+2)=some (zs[j]?.getD default).f
 |[],off,l,_,h=>by
  simp only[dL,F7]at h;subst h;exact⟨[],rfl,fun j hj=>by simp at hj⟩
 | e :: es,off,l,he,h=>by
  simp only[dL]at h;cases h1:pF e with
  |none=>rw[h1]at h;cases h
  | some y=>
   cases h2:dL es with
   |none=>rw[h1,h2]at h;cases h
   | some l'=>
    rw[h1,h2]at h;simp only[F7]at h;subst h;simp only[bg]at he;obtain⟨⟨v,hv,hs,hc⟩,he⟩:=he
    have:=ue h1
    subst this;simp only[VR,aP]at hv;obtain⟨vs,rfl,_,_,rfl,⟨x,rfl,hx⟩,_,_,rfl,rfl,v3,_,rfl,hv3,rfl⟩:=hv;obtain⟨p,cap,hp,hq1,hq2,hq3⟩:=hv3;subst hp;have hsz:sz=3:=by rw[<- hs];rfl
    subst hsz;obtain⟨zs,hR,hZ⟩:=Dp es (off+3) l' he h2;have c0:=hc 0 _ rfl;have c1:=hc 1 _ rfl;have c2:=hc 2 _ rfl;refine⟨(x,y.2.1,(p,y.2.2.length,cap)):: zs,⟨_,_,rfl,⟨hx,rfl,by simp only[b9.f,VR];exact⟨p,cap,rfl,hq1,hq2,hq3⟩⟩,hR⟩,fun j hj=>?_⟩;cases j with
    |zero=>exact⟨by simpa using c0,by simpa [b9.k]using c1,by simpa [b9.f]using c2⟩
    |succ j=>
     have:=hZ j (by simpa using hj)
     rw[show off+3+j*3=off+(j+1)*3 by omega]at this;simpa using this
theorem i7{S:ap}{β:List aZ}{x:ByteArray}{name:List UInt8}(hx:x.data.toList=name):{l:List (List UInt8×Int×List AV)} ->{zs:List b9} ->ga S β l zs->
  (bY (fun z=>z.1== name) l=none/\bY (fun z:b9=>decide (z.1=x)) zs=none)\/∃y z,bY (fun z=>z.1== name) l=some y/\bY (fun z:b9=>decide (z.1=x)) zs=some z/\Cp S β y z
 |[],zs,h=>by simp only[ga]at h;subst h;exact .inl ⟨rfl,rfl⟩
 | y :: l,zs,h=>by
  simp only[ga]at h;obtain⟨z,r,rfl,hz,h⟩:=h;rcases i7 hx h with⟨h1,h2⟩|⟨y',z',h1,h2,h3⟩
  ·have he:(y.1== name)=decide (z.1=x):=by
    rw[<- hz.1,<- hx];by_cases h:z.1=x
    ·subst h;simp
    ·have h':z.1.data.toList≠x.data.toList:=fun h'=>h (ByteArray.ext (Hr h'));rw[Hb h];exact Ho.2 h'
   simp only[bY,h1,h2,he];cases decide (z.1=x)with
   |true=>exact .inr ⟨y,z,rfl,rfl,hz⟩
   |false=>exact .inl ⟨rfl,rfl⟩
  ·simp only[bY,h1,h2];exact .inr ⟨_,_,rfl,rfl,h3⟩
def Bv(call:FuncId->List AV->M AV)(args:List AV)(h:Hp)(S:ap)(β:List aZ)(w:World)(vs:List Value)(hr:gT call args h≠.fail)(hg:kz S β h w)(hw:Wf S w)(hh:a7 S β w h)(hv:aP S β args vs):
  Calls Tryz.prog 112 vs.toArray w (bS none S β h w (gT call args h)):=by
 unfold gT at hr |-;split at hr
 ·rename_i es name;cases hl:dL es with
  |none=>rw[hl]at hr;exact absurd rfl hr
  | some l=>
   rw[hl]at hr;simp only at hr |-;cases hc:decide (l.length<=1000000000)with
   |false=>rw[hc]at hr;exact absurd rfl hr
   | true=>
    simp only[F9];simp only[aP,VR]at hv;obtain⟨_,_,rfl,⟨a,cap,rfl,hle,hnil,hq⟩,_,_,rfl,⟨x,rfl,hx⟩,rfl⟩:=hv;have hlen:∀(es:List AV)(l:List (List UInt8×Int×List AV)),dL es=some l->l.length=es.length:=by
     intro es
     induction es with
     |nil=>intro l h;simp only[dL,F7]at h;subst h;rfl
     | cons e es ih=>
      intro l h;simp only[dL]at h;split at h
      ·rename_i h2;cases h;simp[ih _ h2]
      ·cases h
    have hll:=hlen es l hl;have hz:∃zs:List b9,ga S β l zs/\iL w.heap.size w (.slice a zs.length cap) zs:=by
     cases es with
     |nil=>
      simp only[dL,F7]at hl;subst hl;exact⟨[],rfl,.inl ⟨rfl,a,cap,rfl⟩⟩
     | cons e es=>
      cases a with
      |none=>have:=hnil rfl;subst this;simp at hle
      | some q=>
       obtain⟨hs,sz,hE⟩:=hq q rfl;have hcap:0<cap:=by simp at hle;omega
       obtain⟨b,off,sp⟩:=q;have hs':sp=none:=hs hcap;subst hs';obtain⟨zs,hR,hZ⟩:=Dp (e:: es) off l hE hl;refine⟨zs,hR,.inr ⟨b,off,cap,rfl,?_,fun j hj=>?_⟩⟩
       ·have h0:=(hZ 0 (by rw[hR.length,hll];simp)).1;exact hw.lt h0
       ·obtain⟨h1,h2,h3⟩:=hZ j hj;exact⟨hw _ _ _ h1,hw _ _ _ h2,hw _ _ _ h3⟩
    obtain⟨zs,hR,hF⟩:=hz;have hzl:=hR.length;rw[show es.length=zs.length by omega];refine (callsIn_wide (n:=3)).1 ((yG Fence.wide 3 trivial trivial trivial rfl (by omega) a zs.length cap x zs (by have:=HD hc;omega) w hF).mono ?_);rintro e w' ⟨rfl,hb⟩;refine ci hw hh hb oB ?_;unfold oq rS jG;rw[<- mF];rcases i7 hx hR with⟨h1,h2⟩|⟨y,z,h1,h2,h3⟩
    ·rw[h1,h2];simp only[VR,aP];exact⟨_,rfl,_,_,rfl,⟨_,rfl,_,_,rfl,rfl,_,_,rfl,⟨none,0,rfl,Ga _,fun _=>rfl,fun q hq=>by cases hq⟩,rfl⟩,_,_,rfl,rfl,rfl⟩
    ·rw[h1,h2];obtain⟨_,h4,h5⟩:=h3;simp only[VR,aP];exact⟨_,rfl,_,_,rfl,⟨_,rfl,_,_,rfl,by rw[<- h4];rfl,_,_,rfl,h5,rfl⟩,_,_,rfl,rfl,rfl⟩
 ·exact absurd rfl hr
end Go.Proofs.YtihmmkncokjbaaaGreatDoor
namespace Go.Proofs.YtihmmkncokjbaaaGreatDoor
open Go Go.Av Go.Av.Sw Go.RowKit Go.Lib Go.Proofs
set_option maxRecDepth 100000
def yz:∃i,Tryz.prog.info? 37=some i/\i.size=3/\i.bytes=48/\i.zero=some (.agg #[.string ⟨#[]⟩,.int .i64 0,.slice none 0 0]):=by
 have h:(Tryz.prog.info? 37).map (fun i=>(i.size,i.bytes,i.zero))=some (3,48,some (.agg #[.string ⟨#[]⟩,.int .i64 0,.slice none 0 0])):=by kernel_rfl
 obtain⟨i,hi,h1⟩:=G8.1 h;simp only[Ha]at h1;exact⟨i,hi,h1.1,h1.2.1,h1.2.2⟩
def iD(n i:Nat)(x vx:List Value):List Value:=x.take (3*i)++vx.take 3++(x.take (3*n)).drop (3*i)
def yC{n i:Nat}(x vx x1 x2:List Value)(hi:i<n)(hx:(n+1)*3<=x.length)(hv:(vx.take 3).length=3)(e1:x2=x1.take (i*3)++vx.take 3++x1.drop (i*3+3))(e2:x1=x.take ((i+1)*3)++(x.take (3*n)).drop (3*i)++x.drop ((i+1)*3+3*(n-i))):x2.take (3*(n+1))=iD n i x vx:=by
 have a1:x1.take (i*3)=x.take (3*i):=by
  rw[e2,GI,List.take_append_of_le_length (by rw[Gl];omega),HF];congr 1;omega
 have hl1:(x.take ((i+1)*3)).length=i*3+3:=by rw[Gl];omega
 have a2:x1.drop (i*3+3)=(x.take (3*n)).drop (3*i)++x.drop ((i+1)*3+3*(n-i)):=by
  rw[e2,GI,<- hl1,List.drop_left]
 rw[e1,a1,a2];unfold iD;have hl:(x.take (3*i)++vx.take 3++(x.take (3*n)).drop (3*i)).length=3*(n+1):=by
  rw[Gf,Gf,hv,Gl,Hc,Gl];omega
 rw[<- GI,<- hl,Iu]
set_option maxHeartbeats 4000000 in
def uk(w:World)(b vb n c i vc:Nat)(x vx:Array Value)(tb tv:TypeId)(hb:w.heap[b]? = some (.cells x tb (0,0)))(hv:w.heap[vb]? = some (.cells vx tv (0,0)))(hne:vb≠b)(hi:i<n)(hroom:n+1<=c)(hc:c*3<=x.size)(hvx:3<=vx.size)(hn:n<=1000000)(h1x:∀v∈x.toList.take (3*n),v.oneCell'=true)(h1v:∀v∈vx.toList.take 3,v.oneCell'=true):
  Calls Tryz.prog 116 #[.slice (some ⟨b,0,none⟩) n c,.int .i64 (i:Int),.slice (some ⟨vb,0,none⟩) 1 vc] w fun e w'=>
   e= .returned (.slice (some ⟨b,0,none⟩) (n+1) c)/\∃x':Array Value,w'=w.drew.setRow b x'/\x'.size=x.size/\x'.toList.take (3*(n+1))=iD n i x.toList vx.toList:=by
 have mixed:Tryz.prog.follows Departure.mixedOrders=true:=by kernel_rfl
 obtain⟨fi,hfi,hf3,hfb,hfz⟩:=yz;have hsb:w.shape? b=some (tb,x.size):=by simp[World.shape?,hb]
 have hsv:w.shape? vb=some (tv,vx.size):=by simp[World.shape?,hv]
 have hfa:w.frozen? ⟨vb,0,none⟩=false:=by simp[World.frozen?,hv]
 have hfe:w.frozen? ⟨vb,vx.size,none⟩=false:=by simp[World.frozen?,hv]
 have hz3:∀w',(Go.sizeOf 37).run Tryz.prog w'= .ok 3 w':=fun w'=>by simp[Go.sizeOf,typeInfo,hfi,hf3]
 have hov:∀o lb cb,(callFunc 155 #[.slice (some ⟨vb,0,none⟩) 1 vc,.slice (some ⟨b,o,none⟩) lb cb]).run Tryz.prog w= .ok (.value (.bool false)) w:=fun o lb cb=>by
  rw[run_callFunc_extern Tryz.func155 (by kernel_rfl) (by kernel_rfl) (by kernel_rfl) (e:=Extern.SlicesOverlaps.overlaps #[23,23] #[4]) (by kernel_rfl),
   Lib.run_overlaps_apart w 23 4 37 Tryz.underlying23 3 hz3 ⟨vb,0,none⟩ ⟨b,o,none⟩ 1 vc lb cb hne tv tb vx.size x.size hsv hsb (by omega) hfa hfe]
  rfl
 have hi1:¬((i:Int)=(n:Int)):=by omega
 have hw1:IntKind.i64.wrap ((i:Int)+1)=(i:Int)+1:=by rw[IntKind.wrap_i64];omega
 have hw2:IntKind.i64.wrap ((n:Int)+1)=(n:Int)+1:=by rw[IntKind.wrap_i64];omega
 obtain⟨x1,hx1⟩:∃x1:Array Value,x1=(x.toList.take ((i+1)*3)++(x.toList.take (3*n)).drop (3*i)++x.toList.drop ((i+1)*3+((x.toList.take (3*n)).drop (3*i)).length)).toArray:=⟨_,rfl⟩;have hxl:x.toList.length=x.size:=by simp
 have hdl:((x.toList.take (3*n)).drop (3*i)).length=3*(n-i):=by rw[Hc,Gl];omega
 have hx1s:x1.size=x.size:=by rw[hx1];simp;omega
 have hcp1:∀ty dc sc,(Builtin.copy_ #[23,23] ty #[.slice (some ⟨b,(i+1)*3,none⟩) (n-i) dc,.slice (some ⟨b,i*3,none⟩) (n+1-i) sc]).run Tryz.prog w.drew= .ok (goInt ((n-i:Nat):Int)) (w.drew.setRow b x1):=fun ty dc sc=>by
  have hm:Nat.min (n+1-i) (n-i)=n-i:=by simp only[Nat.min_def];split<;>omega
  have:=gZ (P:=Tryz.prog) w.drew 23 23 ty 37 fi b ((i+1)*3) (n-i) dc ⟨b,i*3,none⟩ (n+1-i) sc x tb ((x.toList.take (3*n)).drop (3*i)) Tryz.underlying23 hfi hb (by rw[hdl,hm,hf3];omega)
   (fun j v hj=>by
    rw[Addr.add_lit];rw[GR,Gj]at hj;split at hj
    ·show (w.drew).cell? _=_;simp only[World.cell?,show w.drew.heap[b]? = some (.cells x tb (0,0))from hb];rw[<- Gv,show i*3+j=3*i+j by omega];exact hj
    ·cases hj) (by rw[hdl];omega) (fun v hv=>h1x v (Hh hv))
  rw[hm,<- hx1]at this;exact this
 have hb1:(w.drew.setRow b x1).heap[b]? = some (.cells x1 tb (0,0)):=g7 _ b x1 x tb hb;have hv1:(w.drew.setRow b x1).heap[vb]? = some (.cells vx tv (0,0)):=by rw[eR _ _ _ hne];exact hv
 have hvl:(vx.toList.take 3).length=3:=by rw[Gl,Gs];omega
 obtain⟨x2,hx2⟩:∃x2:Array Value,x2=(x1.toList.take (i*3)++vx.toList.take 3++x1.toList.drop (i*3+(vx.toList.take 3).length)).toArray:=⟨_,rfl⟩;have hcp2:∀ty dc,(Builtin.copy_ #[23,23] ty #[.slice (some ⟨b,i*3,none⟩) (n+1-i) dc,.slice (some ⟨vb,0,none⟩) 1 vc]).run Tryz.prog (w.drew.setRow b x1)= .ok (goInt 1) (w.drew.setRow b x2):=fun ty dc=>by
  have hm:Nat.min 1 (n+1-i)=1:=by simp only[Nat.min_def];split<;>omega
  have:=gZ (P:=Tryz.prog) (w.drew.setRow b x1) 23 23 ty 37 fi b (i*3) (n+1-i) dc ⟨vb,0,none⟩ 1 vc x1 tb (vx.toList.take 3) Tryz.underlying23 hfi hb1 (by rw[hvl,hm,hf3])
   (fun j v hj=>by
    rw[Addr.add_lit];rw[Gj]at hj;split at hj
    ·simp only[World.cell?,hv1];rw[<- Gv,GE];exact hj
    ·cases hj) (by rw[hvl,hx1s];omega) h1v
  rw[hm,<- hx2,setRow_setRow]at this;exact this
 have hfin:x2.size=x.size/\x2.toList.take (3*(n+1))=iD n i x.toList vx.toList:=by
  refine⟨by rw[hx2];simp;omega,?_⟩;have e1:x2.toList=x1.toList.take (i*3)++vx.toList.take 3++x1.toList.drop (i*3+3):=by rw[hx2,hvl]
  have e2:x1.toList=x.toList.take ((i+1)*3)++(x.toList.take (3*n)).drop (3*i)++x.toList.drop ((i+1)*3+3*(n-i)):=by rw[hx1,hdl]
  exact yC x.toList vx.toList x1.toList x2.toList hi (by omega) hvl e1 e2
 clear hx1 hx2;have hb2:¬(c=i+1):=by omega
 have hb4:¬(c=i):=by omega
 have htn:((i:Int)+1).toNat=i+1:=by omega
 have hq1:(0:Int)<=(i:Int)+1:=by omega
 have hq2:(i:Int)<=(n:Int)+1:=by omega
 have hq3:(i:Int)+1<=(n:Int)+1:=by omega
 go_enter Tryz.func116,Tryz.ntmps116
 go_wp2_with (simp only[hov])
 go_region_law_o (refine step_copy_runI rfl _ _ 23 23 rfl _ _ (by simp[Act.eval,Act.put]) (by simp[Act.eval,Act.put]) (hcp1 _ _ _) ?_)
 go_wp2_with (at_builtin;refine wpList_copy_runI _ rfl _ _ 23 23 rfl _ _ rfl rfl (hcp2 _ _) ?_)
 go_ret
 exact⟨rfl,x2,rfl,hfin.1,hfin.2⟩
def pZ{n:Nat}(x vx:List Value):iD n n x vx=x.take (3*n)++vx.take 3:=by
 unfold iD;rw[IW,Hq];simp
set_option maxHeartbeats 4000000 in
def yA(w:World)(b vb n c vc:Nat)(x vx:Array Value)(tb tv:TypeId)(hb:w.heap[b]? = some (.cells x tb (0,0)))(hv:w.heap[vb]? = some (.cells vx tv (0,0)))(hroom:n+1<=c)(hc:c*3<=x.size)(hvx:3<=vx.size)(hn:n<=1000000)(h1v:∀v∈vx.toList.take 3,v.oneCell'=true):
  Calls Tryz.prog 116 #[.slice (some ⟨b,0,none⟩) n c,.int .i64 (n:Int),.slice (some ⟨vb,0,none⟩) 1 vc] w fun e w'=>
   e= .returned (.slice (some ⟨b,0,none⟩) (n+1) c)/\∃x':Array Value,w'=w.setRow b x'/\x'.size=x.size/\x'.toList.take (3*(n+1))=iD n n x.toList vx.toList:=by
 have mixed:Tryz.prog.follows Departure.mixedOrders=true:=by kernel_rfl
 obtain⟨fi,hfi,hf3,hfb,hfz⟩:=yz;have hvl:(vx.toList.take 3).length=3:=by rw[Gl,Gs];omega
 have hsrc:Src Tryz.prog fi.size 23 (.slice (some ⟨vb,0,none⟩) 1 vc) 1 (vx.toList.take 3) w:=Src.ofSlice w Tryz.underlying23 ⟨vb,0,none⟩ 1 vc (vx.toList.take 3) (by rw[hvl,hf3])
  (fun j v hj=>by
   rw[Addr.add_lit];rw[Gj]at hj;split at hj
   ·simp only[World.cell?,hv];rw[<- Gv,GE];exact hj
   ·cases hj) h1v
 obtain⟨x2,hx2⟩:∃x2:Array Value,x2=(x.toList.take (0+n*fi.size)++vx.toList.take 3++x.toList.drop (0+n*fi.size+(vx.toList.take 3).length)).toArray:=⟨_,rfl⟩;have hrun:∀ty,(Builtin.append_ #[23,23] ty #[.slice (some ⟨b,0,none⟩) n c,.slice (some ⟨vb,0,none⟩) 1 vc]).run Tryz.prog w= .ok (.slice (some ⟨b,0,none⟩) (n+1) c) (w.setRow b x2):=fun ty=>by
  rw[hx2];exact ia w 23 23 ty 37 fi Tryz.underlying23 hfi b 0 n c _ 1 (vx.toList.take 3) hsrc hroom x tb hb (by rw[hvl,hf3];omega)
 have hxl:x.toList.length=x.size:=by simp
 have hfin:x2.size=x.size/\x2.toList.take (3*(n+1))=iD n n x.toList vx.toList:=by
  rw[hf3]at hx2;refine⟨by rw[hx2];simp;omega,?_⟩;rw[pZ,hx2];show (x.toList.take (0+n*3)++vx.toList.take 3++x.toList.drop (0+n*3+(vx.toList.take 3).length)).take (3*(n+1))=_;have hl:(x.toList.take (0+n*3)++vx.toList.take 3).length=3*(n+1):=by
   rw[Gf,hvl,Gl];omega
  rw[<- hl,Iu];congr 2;omega
 clear hx2
 go_enter Tryz.func116,Tryz.ntmps116
 go_wp2_with (at_builtin;refine Lib.wpList_append_run _ rfl _ _ _ _ rfl _ _ rfl rfl _ _ (hrun _) ?_)
 go_ret
 exact⟨rfl,x2,rfl,hfin.1,hfin.2⟩
def uR(w w':World):Prop:=w'.os=w.os/\w'.output=w.output/\w'.tape=w.tape/\w.drawn<=w'.drawn
def qU(w:World)(n:Nat)(cs:List Value)(e:Ending)(w':World):Prop:=
 ∃(cap:Nat)(z:List Value),e= .returned (.slice (some ⟨w.heap.size,0,none⟩) (n+1) cap)/\n+1<=cap/\cap*3<=(cs++z).length/\w'.heap=(w.alloc (.cells (cs++z).toArray 37)).heap/\uR w w'
set_option maxHeartbeats 4000000 in
def km(w:World)(base:Option Addr)(vb n c vc:Nat)(cs:List Value)(vx:Array Value)(tv:TypeId)(hcs:∀a,base=some a->a.spot=none/\∀j v,cs[j]? = some v->w.cell? (a.add j)=some v)(hnil:base=none->n=0)(hcl:cs.length=n*3)(hv:w.heap[vb]? = some (.cells vx tv (0,0)))(hnc:n<=c)(hroom:c<n+1)(hvx:3<=vx.size)(hn:n<=1000000)(h1v:∀v∈vx.toList.take 3,v.oneCell'=true):
  Calls Tryz.prog 116 #[.slice base n c,.int .i64 (n:Int),.slice (some ⟨vb,0,none⟩) 1 vc] w fun e w'=>qU w n (cs++vx.toList.take 3) e w':=by
 have mixed:Tryz.prog.follows Departure.mixedOrders=true:=by kernel_rfl
 obtain⟨fi,hfi,hf3,hfb,hfz⟩:=yz;have hvl:(vx.toList.take 3).length=3:=by rw[Gl,Gs];omega
 have hsrc:Src Tryz.prog fi.size 23 (.slice (some ⟨vb,0,none⟩) 1 vc) 1 (vx.toList.take 3) w:=Src.ofSlice w Tryz.underlying23 ⟨vb,0,none⟩ 1 vc (vx.toList.take 3) (by rw[hvl,hf3])
  (fun j v hj=>by
   rw[Addr.add_lit];rw[Gj]at hj;split at hj
   ·simp only[World.cell?,hv];rw[<- Gv,GE];exact hj
   ·cases hj) h1v
 have hold:(Builtin.firstCells fi.size n (.slice base n c)).run Tryz.prog w.drew= .ok cs.toArray w.drew:=by
  rw[hf3];cases base with
  |none=>
   have h0:=hnil rfl;subst h0;have hc0:cs=[]:=H6.1 (by omega);rw[hc0];exact run_firstCells_none w.drew 3 0 0 c
  |some a=>exact run_firstCells_some w.drew 3 n a n c cs hcl (fun j v hj=>(hcs a rfl).2 j v hj)
 have hrun:=fun ty=>run_append_grow_src (P:=Tryz.prog) w 23 23 ty 37 fi _ Tryz.underlying23 hfi hfz base n c cs hold _ 1 (vx.toList.take 3) hsrc (by omega) (by omega) (by rw[hfb];exact growslice_fits (by omega) (by omega));have hG:=grownCap_ge w (n+1) c 37;have hfin:∃z:List Value,(grownCap w (n+1) c 37)*3<=(cs++vx.toList.take 3++z).length/\((cs++vx.toList.take 3).toArray++Builtin.zeroCells (Value.agg #[.string ⟨#[]⟩,.int .i64 0,.slice none 0 0]).cells (grownCap w (n+1) c 37-(n+1)))=(cs++vx.toList.take 3++z).toArray:=by
  refine⟨(Builtin.zeroCells (Value.agg #[.string ⟨#[]⟩,.int .i64 0,.slice none 0 0]).cells (grownCap w (n+1) c 37-(n+1))).toList,?_,?_⟩
  ·rw[Gf,Gf,hvl,hcl,Gs];have:(Builtin.zeroCells (Value.agg #[.string ⟨#[]⟩,.int .i64 0,.slice none 0 0]).cells (grownCap w (n+1) c 37-(n+1))).size=(grownCap w (n+1) c 37-(n+1))*3:=by
    simp[Builtin.zeroCells,Value.cells]
   rw[this];omega
  ·apply Hr;simp
 obtain⟨z,hz1,hz2⟩:=hfin;rw[hz2]at hrun;obtain⟨G,hGe⟩:∃G,G=grownCap w (n+1) c 37:=⟨_,rfl⟩;rw[<- hGe]at hrun hG hz1;clear hz2 hGe
 go_enter Tryz.func116,Tryz.ntmps116
 cases base with
 |none=>
  have h0:=hnil rfl;subst h0
  go_wp2_with (at_builtin;refine Lib.wpList_append_run _ rfl _ _ _ _ rfl _ _ rfl rfl _ _ (hrun _) ?_)
  go_ret
  exact⟨G,z,rfl,hG,hz1,by rw[GI];rfl,rfl,rfl,rfl,Iw _⟩
 |some a=>
  obtain⟨ab,ao,asp⟩:=a
  go_wp2_with (at_builtin;refine Lib.wpList_append_run _ rfl _ _ _ _ rfl _ _ rfl rfl _ _ (hrun _) ?_)
  all_goals (go_ret;exact⟨G,z,rfl,hG,hz1,by rw[GI];rfl,rfl,rfl,rfl,Iw _⟩)
def mI{W V:World}(h:W.heap=V.heap)(g:Nat)(r:Array Value):(W.setRow g r).heap=(V.setRow g r).heap:=by
 unfold World.setRow;rw[h]
def alloc_at(w:World)(o:Obj):(w.alloc o).heap[w.heap.size]? = some o:=by simp only[World.alloc,Iq,GP]
def mN(w:World)(a r:Array Value)(t:TypeId):((w.alloc (.cells a t (0,0))).setRow w.heap.size r).heap=(w.alloc (.cells r t (0,0))).heap:=by
 apply Array.ext_getElem?;intro k;by_cases hk:k=w.heap.size
 ·subst hk;rw[g7 _ _ r a t (alloc_at w _)];exact (alloc_at w _).symm
 ·rw[eR _ _ _ hk];simp only[World.alloc,Iq,if_neg hk]
def p7{n i:Nat}(x vx:List Value)(row rowA rowB z:List Value)(hi:i<n)(hx:n*3<=x.length)(hv:(vx.take 3).length=3)(hr:row=x.take (i*3)++z)(hz:(n+1-i)*3<=z.length)(e1:rowA=row.take (i*3)++vx.take 3++row.drop (i*3+3))(e2:rowB=rowA.take ((i+1)*3)++(x.take (3*n)).drop (3*i)++rowA.drop ((i+1)*3+3*(n-i))):
  ∃y,rowB=iD n i x vx++y/\rowB.length=row.length:=by
 have hxl:(x.take (i*3)).length=i*3:=by rw[Gl];omega
 have hrl:row.length=i*3+z.length:=by rw[hr,Gf,hxl]
 have a0:row.take (i*3)=x.take (i*3):=by rw[hr];exact HX hxl
 have hAl:rowA.length=row.length:=by
  rw[e1,Gf,Gf,a0,hxl,hv,Hc];omega
 have a1:rowA.take ((i+1)*3)=x.take (3*i)++vx.take 3:=by
  have hl:(row.take (i*3)++vx.take 3).length=(i+1)*3:=by rw[Gf,a0,hxl,hv];omega
  rw[e1,<- hl,Iu,a0,Nat.mul_comm]
 refine⟨rowA.drop ((i+1)*3+3*(n-i)),?_,?_⟩
 ·rw[e2,a1];rfl
 ·rw[e2,Gf,Gf,Hc,Hc,Gl,Gl];omega
set_option maxHeartbeats 8000000 in
def yB(w:World)(b vb n c i vc:Nat)(x vx:Array Value)(tb tv:TypeId)(hb:w.heap[b]? = some (.cells x tb (0,0)))(hv:w.heap[vb]? = some (.cells vx tv (0,0)))(hne:vb≠b)(hi:i<n)(hnc:n<=c)(hroom:c<n+1)(hc:c*3<=x.size)(hvx:3<=vx.size)(hn:n<=1000000)(h1x:∀v∈x.toList.take (3*n),v.oneCell'=true)(h1v:∀v∈vx.toList.take 3,v.oneCell'=true):
  Calls Tryz.prog 116 #[.slice (some ⟨b,0,none⟩) n c,.int .i64 (i:Int),.slice (some ⟨vb,0,none⟩) 1 vc] w fun e w'=>qU w n (iD n i x.toList vx.toList) e w':=by
 have mixed:Tryz.prog.follows Departure.mixedOrders=true:=by kernel_rfl
 obtain⟨fi,hfi,hf3,hfb,hfz⟩:=yz;have hbw:b<w.heap.size:=(GF.1 hb).1;have hvw:vb<w.heap.size:=(GF.1 hv).1;have hxl:x.toList.length=x.size:=by simp
 have hvl:(vx.toList.take 3).length=3:=by rw[Gl,Gs];omega
 have hik:i+(n+1-i)=n+1:=by omega
 have hkk:(n:Int)+1-(i:Int)=((n+1-i:Nat):Int):=by omega
 have hold:(Builtin.firstCells fi.size i (.slice (some ⟨b,0,none⟩) i c)).run Tryz.prog w.drew= .ok (x.toList.take (i*3)).toArray w.drew:=by
  rw[hf3];exact run_firstCells_some w.drew 3 i ⟨b,0,none⟩ i c (x.toList.take (i*3)) (by rw[Gl];omega) (fun j v hj=>by
   rw[Addr.add_lit];rw[Gj]at hj;split at hj
   ·show (w.drew).cell? _=_;simp only[World.cell?,show w.drew.heap[b]? = some (.cells x tb (0,0))from hb];rw[<- Gv,GE];exact hj
   ·cases hj)
 obtain⟨G,hG⟩:∃G,G=grownCap w (n+1) c 37:=⟨_,rfl⟩;have hGn:n+1<=G:=by rw[hG];exact grownCap_ge w _ _ _
 have hG63:G<=9223372036854775807:=by
  have:=grownCap_le_maxLen w (n+1) c 37 (by unfold maxLen;omega)
  rw[<- hG]at this;unfold maxLen at this;omega
 obtain⟨z,hz,hzl⟩:∃z:List Value,(x.toList.take (i*3)).toArray++Builtin.zeroCells (Value.agg #[.string ⟨#[]⟩,.int .i64 0,.slice none 0 0]).cells (n+1-i)++Builtin.zeroCells (Value.agg #[.string ⟨#[]⟩,.int .i64 0,.slice none 0 0]).cells (G-(n+1))=(x.toList.take (i*3)++z).toArray/\z.length=(G-i)*3:=by
  refine⟨(Builtin.zeroCells (Value.agg #[.string ⟨#[]⟩,.int .i64 0,.slice none 0 0]).cells (n+1-i)).toList++(Builtin.zeroCells (Value.agg #[.string ⟨#[]⟩,.int .i64 0,.slice none 0 0]).cells (G-(n+1))).toList,?_,?_⟩
  ·apply Hr;simp
  ·have hk:∀k,(Builtin.zeroCells (Value.agg #[.string ⟨#[]⟩,.int .i64 0,.slice none 0 0]).cells k).size=k*3:=fun k=>by simp[Builtin.zeroCells,Value.cells]
   rw[Gf,Gs,Gs,hk,hk];omega
 obtain⟨ROW,hROW⟩:∃ROW:Array Value,ROW=(x.toList.take (i*3)++z).toArray:=⟨_,rfl⟩;have hRs:ROW.size=G*3:=by rw[hROW];simp[hzl];omega
 have hrz:∀ty,(Builtin.append_ #[23,3] ty #[.slice (some ⟨b,0,none⟩) i c,.int .i64 ((n:Int)+1-(i:Int))]).run Tryz.prog w= .ok (.slice (some ⟨w.heap.size,0,none⟩) (n+1) G) (w.drew.alloc (.cells ROW 37)):=fun ty=>by
  have h:=Lib.run_append_grow_zeros (P:=Tryz.prog) w 23 3 ty 37 fi _ .i64 .i64 Tryz.underlying23 Tryz.underlying3 hfi hfz (some ⟨b,0,none⟩) i c (x.toList.take (i*3)) hold (n+1-i) (by omega) (by omega) (by omega) (by omega) (by rw[hfb];omega) (by rw[hfb,hik];exact growslice_fits (by omega) (by omega));rw[hik,<- hG,hz,<- hROW]at h;rw[hkk];exact h
 obtain⟨rA,hrA⟩:∃rA:Array Value,rA=(ROW.toList.take (i*3)++vx.toList.take 3++ROW.toList.drop (i*3+(vx.toList.take 3).length)).toArray:=⟨_,rfl⟩;have hdl:((x.toList.take (3*n)).drop (3*i)).length=3*(n-i):=by rw[Hc,Gl];omega
 obtain⟨rB,hrB⟩:∃rB:Array Value,rB=(rA.toList.take ((i+1)*3)++(x.toList.take (3*n)).drop (3*i)++rA.toList.drop ((i+1)*3+((x.toList.take (3*n)).drop (3*i)).length)).toArray:=⟨_,rfl⟩;obtain⟨y,hy1,hy2⟩:=p7 x.toList vx.toList ROW.toList rA.toList rB.toList z hi (by omega) hvl (by rw[hROW]) (by rw[hzl];omega) (by rw[hrA,hvl]) (by rw[hrB,hdl]);have hrAs:rA.size=G*3:=by
  rw[<- hRs,hrA];simp only[Hm,Gf,hvl,Gl,Hc,Gs];omega
 have hWr:∀W:World,W.heap=(w.alloc (.cells ROW 37)).heap->W.heap[w.heap.size]? = some (.cells ROW 37 (0,0)):=fun W h=>by rw[h];exact alloc_at w _
 have hWv:∀W:World,W.heap=(w.alloc (.cells ROW 37)).heap->W.heap[vb]? = some (.cells vx tv (0,0)):=fun W h=>by
  rw[h];simp only[World.alloc];rw[Array.getElem?_push_lt hvw,<- GT hvw];exact hv
 have hWb:∀W:World,W.heap=(w.alloc (.cells ROW 37)).heap->W.heap[b]? = some (.cells x tb (0,0)):=fun W h=>by
  rw[h];simp only[World.alloc];rw[Array.getElem?_push_lt hbw,<- GT hbw];exact hb
 have hcpA:∀(W:World),W.heap=(w.alloc (.cells ROW 37)).heap->∀ty dc,(Builtin.copy_ #[23,23] ty #[.slice (some ⟨w.heap.size,i*3,none⟩) (n+1-i) dc,.slice (some ⟨vb,0,none⟩) 1 vc]).run Tryz.prog W= .ok (goInt 1) (W.setRow w.heap.size rA):=fun W hW ty dc=>by
  have hm:Nat.min 1 (n+1-i)=1:=by simp only[Nat.min_def];split<;>omega
  have:=gZ (P:=Tryz.prog) W 23 23 ty 37 fi w.heap.size (i*3) (n+1-i) dc ⟨vb,0,none⟩ 1 vc ROW 37 (vx.toList.take 3) Tryz.underlying23 hfi (hWr W hW) (by rw[hvl,hm,hf3])
   (fun j v hj=>by
    rw[Addr.add_lit];rw[Gj]at hj;split at hj
    ·simp only[World.cell?,hWv W hW];rw[<- Gv,GE];exact hj
    ·cases hj) (by rw[hvl,hRs];omega) h1v
  rw[hm,<- hrA]at this;exact this
 have hcpB:∀(W:World),W.heap=((w.alloc (.cells ROW 37)).setRow w.heap.size rA).heap->∀ty dc sc,(Builtin.copy_ #[23,23] ty #[.slice (some ⟨w.heap.size,(i+1)*3,none⟩) (n-i) dc,.slice (some ⟨b,i*3,none⟩) (n-i) sc]).run Tryz.prog W= .ok (goInt ((n-i:Nat):Int)) (W.setRow w.heap.size rB):=fun W hW ty dc sc=>by
  have hm:Nat.min (n-i) (n-i)=n-i:=Nat.min_self _;have hWA:W.heap[w.heap.size]? = some (.cells rA 37 (0,0)):=by
   rw[hW,mN];exact alloc_at w _
  have hWb2:W.heap[b]? = some (.cells x tb (0,0)):=by
   rw[hW,eR _ _ _ (by omega)];exact hWb _ rfl
  have:=gZ (P:=Tryz.prog) W 23 23 ty 37 fi w.heap.size ((i+1)*3) (n-i) dc ⟨b,i*3,none⟩ (n-i) sc rA 37 ((x.toList.take (3*n)).drop (3*i)) Tryz.underlying23 hfi hWA (by rw[hdl,hm,hf3];omega)
   (fun j v hj=>by
    rw[Addr.add_lit];rw[GR,Gj]at hj;split at hj
    ·simp only[World.cell?,hWb2];rw[<- Gv,show i*3+j=3*i+j by omega];exact hj
    ·cases hj) (by rw[hdl,hrAs];omega) (fun v hv=>h1x v (Hh hv))
  rw[hm,<- hrB]at this;exact this
 have hfin:∀W:World,W.heap=((w.alloc (.cells ROW 37)).setRow w.heap.size rB).heap->W.heap=(w.alloc (.cells (iD n i x.toList vx.toList++y).toArray 37)).heap:=fun W hW=>by
  rw[hW,mN,<- hy1]
 have hyl:G*3<=(iD n i x.toList vx.toList++y).length:=by rw[<- hy1,hy2,Gs,hRs];exact Ga _
 have hE:∀W:World,W.heap=((w.alloc (.cells ROW 37)).setRow w.heap.size rA).heap->(W.setRow w.heap.size rB).heap=((w.alloc (.cells ROW 37)).setRow w.heap.size rB).heap:=fun W hW=>by
  rw[mI hW,setRow_setRow]
 have hb2:¬(G=i+1):=by omega
 have hb4:¬(G=i):=by omega
 have hb5:¬(c=i):=by omega
 have htn:((i:Int)+1).toNat=i+1:=by omega
 have hq1:(0:Int)<=(i:Int)+1:=by omega
 have hq2:(i:Int)<=(n:Int)+1:=by omega
 have hq3:(i:Int)+1<=(n:Int)+1:=by omega
 have hq4:(i:Int)<=(n:Int):=by omega
 have hq5:i<=n:=by omega
 have hi1:¬((i:Int)=(n:Int)):=by omega
 have hw1:IntKind.i64.wrap ((i:Int)+1)=(i:Int)+1:=by rw[IntKind.wrap_i64];omega
 have hw2:IntKind.i64.wrap ((n:Int)+1)=(n:Int)+1:=by rw[IntKind.wrap_i64];omega
 clear hkk hik hold hROW hG hRs hrA hrB hz hzl hy1 hy2 hWr hWv hWb hrAs
 go_enter Tryz.func116,Tryz.ntmps116
 go_wp2_with (at_builtin;refine Lib.wpList_append_run _ rfl _ _ _ _ rfl _ _ rfl rfl _ _ (hrz _) ?_)
 rw[hcpA (w.alloc (.cells ROW 37)).drew rfl];simp only[Result.andThen];rw[Oper.upon_value]
 go_wp2
 go_region_law_o (refine step_copy_runI rfl _ _ 23 23 rfl (.slice (some ⟨w.heap.size,(i+1)*3,none⟩) (n-i) (G-(i+1))) (.slice (some ⟨b,i*3,none⟩) (n-i) (c-i)) (by simp[Act.eval,Act.put]) (by simp[Act.eval,Act.put]) (hcpB ((w.alloc (.cells ROW 37)).drew.setRow w.heap.size rA).drew rfl 3 (G-(i+1)) (c-i)) ?_)
 go_wp2
 go_ret
 exact⟨G,y,rfl,hGn,hyl,hfin _ (hE _ rfl),rfl,rfl,rfl,by show w.drawn<=w.drawn+1+1;omega⟩
end Go.Proofs.YtihmmkncokjbaaaGreatDoor
