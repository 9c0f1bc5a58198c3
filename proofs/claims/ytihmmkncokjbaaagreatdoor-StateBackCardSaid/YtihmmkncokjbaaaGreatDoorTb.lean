/- What the functions of the seat compute, part 2: the texts of the claim, one behind the other. Conditions: bounds, as each theorem names them. -/
import Derived.Test.YtihmmkncokjbaaaGreatDoorTa
import Derived.Laws.Rows
import Derived.WalkSmall
import Derived.Test.YtihmmkncokjbaaaGreatDoorRows
import Derived.Lib.LaidTab
import Derived.Stop.LaidErr
import Derived.Shelf.Vars
import Derived.ProofKit
import Derived.Deep.DeepHandedRow
import Derived.Deep.DeepWitnessRowRef
import Derived.Deep.DeepLaidRun
import Derived.Test.YtihmmkncokjbaaaGreatDoorLd
set_option linter.defProp false
set_option linter.unusedSimpArgs false
set_option linter.unusedVariables false
namespace Go.Proofs.YtihmmkncokjbaaaGreatDoor
open Go Go.Av
set_option maxRecDepth 100000
def z7(w:World)(k f:Value):World:=((w.alloc (Obj.cells #[k,f] 35)).alloc (Obj.cells #[Value.int IntKind.i64 0,Value.int IntKind.i64 0,Value.slice none 0 0,Value.slice none 0 0] 45)).alloc (Obj.cells #[Value.int IntKind.i64 0] 39)
def sy(w:World)(k f:Value)(x:ByteArray):World:=(z7 w k f).alloc (Obj.cells #[.string x] 85)
def gd(b:Nat)(w:World)(u0 u1 u2 u3:Value):World:=(((w.setCell ⟨b,0,none⟩ u0).setCell ⟨b,1,none⟩ u1).setCell ⟨b,2,none⟩ u2).setCell ⟨b,3,none⟩ u3
def bP(b:Nat)(w:World):World:=(gd b (rk w) (.int .i64 0) (.int .i64 0) (.slice none 0 0) (.slice none 0 0)).setCell ⟨b+1,0,none⟩ (.int .i64 34)
def g8:Value:=.tuple #[.agg #[.int .i64 0,.int .i64 0,.slice none 0 0,.slice none 0 0],.int .i64 34]
abbrev Df:Ending:=.panicked [{ v:=.iface 81 (.agg #[]),recovered:=false }]
structure RdRows (n:Nat) (w:World) (k f u0 u1 u2 u3:Value):Prop where
 r0:w.heap[n]? = some (.cells #[k,f] 35 (0,0))
 r1:w.heap[n+1]? = some (.cells #[u0,u1,u2,u3] 45 (0,0))
 r2:w.heap[n+2]? = some (.cells #[Value.int IntKind.i64 0] 39 (0,0))
def lB{w:World}{b:Nat}{o:Obj}(h:w.heap[b]? = some o):(rk w).heap[b]? = some o:=by
 have hb:b<w.heap.size:=by
  rcases Gd b w.heap.size with h1|h1
  ·exact h1
  ·rw[Gz h1]at h;cases h
 unfold rk;rw[Go.Av.alloc_old _ _ hb];exact h
def RdRows.vcells{n:Nat}{w:World}{k f x0 x1 x2 x3:Value}(H:RdRows n w k f x0 x1 x2 x3):(w.cell? ⟨n+1,0,none⟩=some x0/\w.cell? ⟨n+1,1,none⟩=some x1/\w.cell? ⟨n+1,2,none⟩=some x2/\w.cell? ⟨n+1,3,none⟩=some x3/\w.cell? ⟨n+2,0,none⟩=some (.int .i64 0))/\
  (w.frozen? ⟨n+1,0,none⟩=false/\w.frozen? ⟨n+1,1,none⟩=false/\w.frozen? ⟨n+1,2,none⟩=false/\w.frozen? ⟨n+1,3,none⟩=false/\w.frozen? ⟨n+2,0,none⟩=false):=
 ⟨⟨by simp[World.cell?,H.r1],by simp[World.cell?,H.r1],by simp[World.cell?,H.r1],by simp[World.cell?,H.r1],by simp[World.cell?,H.r2]⟩,by simp[World.frozen?,H.r1],by simp[World.frozen?,H.r1],by simp[World.frozen?,H.r1],by simp[World.frozen?,H.r1],by simp[World.frozen?,H.r2]⟩
def RdRows.put{n:Nat}{w:World}{k f x0 x1 x2 x3:Value}(H:RdRows n w k f x0 x1 x2 x3)(u0 u1 u2 u3:Value):RdRows n (gd (n+1) w u0 u1 u2 u3) k f u0 u1 u2 u3:=by
 have e0:=heap_setCell_same w (n+1) 0 _ _ u0 H.r1;have e1:=heap_setCell_same _ (n+1) 1 _ _ u1 e0;have e2:=heap_setCell_same _ (n+1) 2 _ _ u2 e1;have e3:=heap_setCell_same _ (n+1) 3 _ _ u3 e2;refine⟨?_,e3,?_⟩
 ·unfold gd;rw[aF (by simp),aF (by simp),aF (by simp),aF (by simp)];exact H.r0
 ·unfold gd;rw[aF (by simp),aF (by simp),aF (by simp),aF (by simp)];exact H.r2
def kJ{n:Nat}{w:World}{k f x0 x1 x2 x3:Value}(H:RdRows n w k f x0 x1 x2 x3):CallsD Tryz.prog 53 #[.pointer (some ⟨n+1,0,none⟩),.pointer (some ⟨n+2,0,none⟩)] (.panicking [{ v:=.iface 81 (.agg #[]),recovered:=false }]) w fun e u' w'=>
   e= .returned (.tuple #[])/\u'= .panicking [{ v:=.iface 81 (.agg #[]),recovered:=true }]/\w'=bP (n+1) w:=by
 have r1:=lB H.r1;have r2:=lB H.r2;exact sx (n+1) (n+2) x0 x1 x2 x3 (.int .i64 0) w (by simp[World.cell?,r1]) (by simp[World.cell?,r1]) (by simp[World.cell?,r1]) (by simp[World.cell?,r1]) (by simp[World.cell?,r2])
  (by simp[World.frozen?,r1]) (by simp[World.frozen?,r1]) (by simp[World.frozen?,r1]) (by simp[World.frozen?,r1]) (by simp[World.frozen?,r2]) (by omega) (by omega)
def fL{n:Nat}{w:World}{k f x0 x1 x2 x3:Value}(H:RdRows n w k f x0 x1 x2 x3):(bP (n+1) w).heap[n+1]? = some (.cells #[.int .i64 0,.int .i64 0,.slice none 0 0,.slice none 0 0] 45 (0,0))/\(bP (n+1) w).heap[n+2]? = some (.cells #[Value.int IntKind.i64 34] 39 (0,0)):=by
 have H':RdRows n (rk w) k f x0 x1 x2 x3:=⟨lB H.r0,lB H.r1,lB H.r2⟩;have P:=H'.put (.int .i64 0) (.int .i64 0) (.slice none 0 0) (.slice none 0 0);refine⟨?_,?_⟩
 ·unfold bP;rw[aF (by simp)];exact P.r1
 ·exact heap_setCell_same _ (n+2) 0 _ _ _ P.r2
def pp(n:Nat)(k f u0 u1 u2 u3:Value)(R:Ending->World->Prop):Ending->World->Prop:=fun e w'=>RdRows n w' k f u0 u1 u2 u3/\
 ((e= .returned (.bool true)/\R (.returned (.tuple #[.agg #[u0,u1,u2,u3],.int .i64 0])) ((gd (n+1) w' u0 u1 u2 u3).setCell ⟨n+2,0,none⟩ (.int .i64 0)))\/
  ((e= .returned (.bool false)\/e=Df)/\R (.returned g8) (bP (n+1) w')))
def pq(n:Nat)(k f:Value)(R:Ending->World->Prop):Ending->World->Prop:=fun e w'=>RdRows n w' k f (.int .i64 0) (.int .i64 0) (.slice none 0 0) (.slice none 0 0)/\
 ((∃(u0 u1 u2 u3:Value)(y:ByteArray),u0.oneCell'=true/\u1.oneCell'=true/\u2.oneCell'=true/\u3.oneCell'=true/\e= .returned (.agg #[u0,u1,u2,u3])/\w'.cell? ⟨n+3,0,none⟩=some (.string y)/\
   ((y.toList.isEmpty=false/\R (.returned g8) (bP (n+1) (gd (n+1) w' u0 u1 u2 u3)))\/
    (y=⟨#[]⟩/\Calls Tryz.prog 20 #[.agg #[k,f],.agg #[u0,u1,u2,u3]] (gd (n+1) w' u0 u1 u2 u3) (pp n k f u0 u1 u2 u3 R))))\/
   (e=Df/\R (.returned g8) (bP (n+1) w')))
def gS{w:World}{a:Addr}{v x:Value}{m:Mode}(h:w.cell? a=some x)(hf:w.frozen? a=false):stored Tryz.prog w a v m= .ok () (w.setCell a v):=by simp[stored,h,hf]
def sw{w:World}{b:Nat}{t:TypeId}{x0 x1 x2 x3:Value}(H:w.heap[b]? = some (.cells #[x0,x1,x2,x3] t (0,0)))(u0 u1 u2 u3:Value)(m:Mode):
  stored Tryz.prog w ⟨b,0,none⟩ u0 m= .ok () (w.setCell ⟨b,0,none⟩ u0)/\
  stored Tryz.prog (w.setCell ⟨b,0,none⟩ u0) ⟨b,1,none⟩ u1 m= .ok () ((w.setCell ⟨b,0,none⟩ u0).setCell ⟨b,1,none⟩ u1)/\
  stored Tryz.prog ((w.setCell ⟨b,0,none⟩ u0).setCell ⟨b,1,none⟩ u1) ⟨b,2,none⟩ u2 m= .ok () (((w.setCell ⟨b,0,none⟩ u0).setCell ⟨b,1,none⟩ u1).setCell ⟨b,2,none⟩ u2)/\
  stored Tryz.prog (((w.setCell ⟨b,0,none⟩ u0).setCell ⟨b,1,none⟩ u1).setCell ⟨b,2,none⟩ u2) ⟨b,3,none⟩ u3 m= .ok () (gd b w u0 u1 u2 u3):=by
 have e0:=heap_setCell_same w b 0 _ _ u0 H;have e1:=heap_setCell_same _ b 1 _ _ u1 e0;have e2:=heap_setCell_same _ b 2 _ _ u2 e1;exact⟨gS (x:=x0) (by simp[World.cell?,H]) (by simp[World.frozen?,H]),gS (x:=x1) (by simp[World.cell?,e0]) (by simp[World.frozen?,e0]),gS (x:=x2) (by simp[World.cell?,e1]) (by simp[World.frozen?,e1]),gS (x:=x3) (by simp[World.cell?,e2]) (by simp[World.frozen?,e2])⟩
def uV{b:Nat}{w:World}{u0 u1 u2 u3:Value}{c o:Nat}(h:c≠b):(gd b w u0 u1 u2 u3).cell? ⟨c,o,none⟩=w.cell? ⟨c,o,none⟩:=by
 unfold gd;rw[cell_of_heap (aF h),cell_of_heap (aF h),cell_of_heap (aF h),cell_of_heap (aF h)]
set_option maxHeartbeats 4000000 in
def uZ(k f:Value)(hk:k.oneCell'=true)(hf:f.oneCell'=true)(x:ByteArray)(w:World)(R:Ending->World->Prop)(hc:Calls Tryz.prog 54 #[.pointer (some ⟨w.heap.size+3,0,none⟩),.int .i64 4] (sy w k f x) (pq w.heap.size k f R)):Calls Tryz.prog 19 #[.agg #[k,f],.string x] w R:=by
 have hmf:∀(fn:Fn)(first cap:Array Value)(w:World),(Instr.makeFunc fn first cap).run Tryz.prog w= .ok (.func fn first cap) w:=fun _ _ _ _=>rfl;unfold sy z7 at hc
 go_enter_defers Tryz.func19,Tryz.ntmps19
 go_wp2_with (go_at_call 54;refine hc.mono ?_;rintro e w' ⟨H,h⟩;rcases h with⟨u0,u1,u2,u3,y,o0,o1,o2,o3,rfl,hy,h⟩|⟨rfl,hR⟩)
 ·have s0:∀a m (w:World),(store a u0 m).run Tryz.prog w=stored Tryz.prog w a u0 m:=fun a m w=>run_store _ w a u0 m o0;have s1:∀a m (w:World),(store a u1 m).run Tryz.prog w=stored Tryz.prog w a u1 m:=fun a m w=>run_store _ w a u1 m o1;have s2:∀a m (w:World),(store a u2 m).run Tryz.prog w=stored Tryz.prog w a u2 m:=fun a m w=>run_store _ w a u2 m o2;have s3:∀a m (w:World),(store a u3 m).run Tryz.prog w=stored Tryz.prog w a u3 m:=fun a m w=>run_store _ w a u3 m o3;obtain⟨p0,p1,p2,p3⟩:=sw H.r1 u0 u1 u2 u3 .plain;simp only[s0,s1,s2,s3,p0,p1,p2,p3,Result.andThen];have P:=H.put u0 u1 u2 u3;have hy1:(gd (w.heap.size+1) w' u0 u1 u2 u3).cell? ⟨w.heap.size+3,0,none⟩=some (.string y):=by rw[uV (by simp)];exact hy
  clear hc H p0 p1 p2 p3 hy;generalize gd (w.heap.size+1) w' u0 u1 u2 u3=w1 at h P hy1 |-;have t0:w1.cell? ⟨w.heap.size,0,none⟩=some k:=by simp[World.cell?,P.r0]
  have t1:w1.cell? ⟨w.heap.size,1,none⟩=some f:=by simp[World.cell?,P.r0]
  have c0:w1.cell? ⟨w.heap.size+1,0,none⟩=some u0:=by simp[World.cell?,P.r1]
  have c1:w1.cell? ⟨w.heap.size+1,1,none⟩=some u1:=by simp[World.cell?,P.r1]
  have c2:w1.cell? ⟨w.heap.size+1,2,none⟩=some u2:=by simp[World.cell?,P.r1]
  have c3:w1.cell? ⟨w.heap.size+1,3,none⟩=some u3:=by simp[World.cell?,P.r1]
  rcases h with⟨hy0,hR⟩|⟨rfl,hcall⟩
  ·go_wp2
   refine leaves_cons (f:=53) (args:=#[.pointer (some ⟨w.heap.size+1,0,none⟩),.pointer (some ⟨w.heap.size+2,0,none⟩)]) (by simp) (by simp[go_sem]) ?_;refine (kJ P).mono ?_;rintro e u' w'' ⟨rfl,rfl,rfl⟩;simp only[settle];refine⟨_,?_,hR⟩;obtain⟨q1,q2⟩:=fL P;have a0:(bP (w.heap.size+1) w1).cell? ⟨w.heap.size+1,0,none⟩=some (.int .i64 0):=by simp[World.cell?,q1]
   have a1:(bP (w.heap.size+1) w1).cell? ⟨w.heap.size+1,1,none⟩=some (.int .i64 0):=by simp[World.cell?,q1]
   have a2:(bP (w.heap.size+1) w1).cell? ⟨w.heap.size+1,2,none⟩=some (.slice none 0 0):=by simp[World.cell?,q1]
   have a3:(bP (w.heap.size+1) w1).cell? ⟨w.heap.size+1,3,none⟩=some (.slice none 0 0):=by simp[World.cell?,q1]
   have a4:(bP (w.heap.size+1) w1).cell? ⟨w.heap.size+2,0,none⟩=some (.int .i64 34):=by simp[World.cell?,q2]
   generalize bP (w.heap.size+1) w1=W at *;simp[results,Tryz.results19,go_sem,g8,a0,a1,a2,a3,a4]
  ·go_wp2_with (go_at_call 20;refine hcall.mono ?_;rintro e w3 ⟨H,h⟩;obtain⟨⟨d0,d1,d2,d3,d4⟩,g0,g1,g2,g3,g4⟩:=H.vcells;rcases h with⟨rfl,hR⟩|⟨rfl|rfl,hR⟩)
   ·clear P;refine leaves_cons (f:=53) (args:=#[.pointer (some ⟨w.heap.size+1,0,none⟩),.pointer (some ⟨w.heap.size+2,0,none⟩)]) (by simp) (by simp[go_sem]) ?_;refine (qL ⟨w.heap.size+1,0,none⟩ ⟨w.heap.size+2,0,none⟩ _).mono ?_;rintro e u' w'' ⟨rfl,rfl,rfl⟩;simp only[settle];refine⟨_,?_,hR⟩;simp[results,Tryz.results19,go_sem,World.cell?_setCell_same,d0,d1,d2,d3,d4]
   ·refine leaves_cons (f:=53) (args:=#[.pointer (some ⟨w.heap.size+1,0,none⟩),.pointer (some ⟨w.heap.size+2,0,none⟩)]) (by simp) (by simp[go_sem]) ?_;refine (kJ H).mono ?_;rintro e u' w'' ⟨rfl,rfl,rfl⟩;simp only[settle];refine⟨_,?_,hR⟩;obtain⟨q1,q2⟩:=fL H;have a0:(bP (w.heap.size+1) w3).cell? ⟨w.heap.size+1,0,none⟩=some (.int .i64 0):=by simp[World.cell?,q1]
    have a1:(bP (w.heap.size+1) w3).cell? ⟨w.heap.size+1,1,none⟩=some (.int .i64 0):=by simp[World.cell?,q1]
    have a2:(bP (w.heap.size+1) w3).cell? ⟨w.heap.size+1,2,none⟩=some (.slice none 0 0):=by simp[World.cell?,q1]
    have a3:(bP (w.heap.size+1) w3).cell? ⟨w.heap.size+1,3,none⟩=some (.slice none 0 0):=by simp[World.cell?,q1]
    have a4:(bP (w.heap.size+1) w3).cell? ⟨w.heap.size+2,0,none⟩=some (.int .i64 34):=by simp[World.cell?,q2]
    generalize bP (w.heap.size+1) w3=W at *;simp[results,Tryz.results19,go_sem,g8,a0,a1,a2,a3,a4]
   ·refine leaves_cons (f:=53) (args:=#[.pointer (some ⟨w.heap.size+1,0,none⟩),.pointer (some ⟨w.heap.size+2,0,none⟩)]) (by simp) (by simp[go_sem]) ?_;refine (kJ H).mono ?_;rintro e u' w'' ⟨rfl,rfl,rfl⟩;simp only[settle];refine⟨_,?_,hR⟩;obtain⟨q1,q2⟩:=fL H;have a0:(bP (w.heap.size+1) w3).cell? ⟨w.heap.size+1,0,none⟩=some (.int .i64 0):=by simp[World.cell?,q1]
    have a1:(bP (w.heap.size+1) w3).cell? ⟨w.heap.size+1,1,none⟩=some (.int .i64 0):=by simp[World.cell?,q1]
    have a2:(bP (w.heap.size+1) w3).cell? ⟨w.heap.size+1,2,none⟩=some (.slice none 0 0):=by simp[World.cell?,q1]
    have a3:(bP (w.heap.size+1) w3).cell? ⟨w.heap.size+1,3,none⟩=some (.slice none 0 0):=by simp[World.cell?,q1]
    have a4:(bP (w.heap.size+1) w3).cell? ⟨w.heap.size+2,0,none⟩=some (.int .i64 34):=by simp[World.cell?,q2]
    generalize bP (w.heap.size+1) w3=W at *;simp[results,Tryz.results19,go_sem,g8,a0,a1,a2,a3,a4]
 ·refine leaves_cons (f:=53) (args:=#[.pointer (some ⟨w.heap.size+1,0,none⟩),.pointer (some ⟨w.heap.size+2,0,none⟩)]) (by simp) (by simp[go_sem]) ?_;refine (kJ H).mono ?_;rintro e u' w'' ⟨rfl,rfl,rfl⟩;simp only[settle];refine⟨_,?_,hR⟩;obtain⟨q1,q2⟩:=fL H;have a0:(bP (w.heap.size+1) w').cell? ⟨w.heap.size+1,0,none⟩=some (.int .i64 0):=by simp[World.cell?,q1]
  have a1:(bP (w.heap.size+1) w').cell? ⟨w.heap.size+1,1,none⟩=some (.int .i64 0):=by simp[World.cell?,q1]
  have a2:(bP (w.heap.size+1) w').cell? ⟨w.heap.size+1,2,none⟩=some (.slice none 0 0):=by simp[World.cell?,q1]
  have a3:(bP (w.heap.size+1) w').cell? ⟨w.heap.size+1,3,none⟩=some (.slice none 0 0):=by simp[World.cell?,q1]
  have a4:(bP (w.heap.size+1) w').cell? ⟨w.heap.size+2,0,none⟩=some (.int .i64 34):=by simp[World.cell?,q2]
  generalize bP (w.heap.size+1) w'=W at *;simp[results,Tryz.results19,go_sem,g8,a0,a1,a2,a3,a4]
def wP{S S1:am}{β β1:List a7}{w w1:World}{h h1:Hp}(hg:kL S β h w)(L:Go.Av.Left (ba β h) S β w S1 β1 w1 h1):kL S1 β1 h1 w1:=by
 have hlt:=hg.1.lt;refine⟨hg.1.mono fun b hb=>(L.keep b (by omega) (hg.2.1 b hb)).1,fun b hb ho=>?_,hg.2.2.mono L.le⟩;rcases L.owned b ho with h|h
 ·exact hg.2.1 b hb h
 ·omega
def xc{S:am}{w w2:World}(hw:Wf S w)(hg:Gro w w2)(hold:∀b,b<w.heap.size->w2.heap[b]? = w.heap[b]?):Go.Av.Left (ba [] []) S [] w S [] w2 []:=
 ⟨am.le_refl S,dm.refl _,fun b o v hv=>by rw[cell_of_heap (hold b (hw.lt hv))];exact hw b o v hv,hg,fun b hb _=>⟨hold b hb,fun _=>rfl⟩,bm.nil,fun b ho=>by obtain⟨l,_,_,h1,_⟩:=ho;simp at h1⟩
def RdRows.keep{n:Nat}{w w':World}{k f x0 x1 x2 x3:Value}(H:RdRows n w k f x0 x1 x2 x3)(h:∀j,j<3->w'.heap[n+j]? = w.heap[n+j]?):RdRows n w' k f x0 x1 x2 x3:=
 ⟨(h 0 (by omega)).trans H.r0,(h 1 (by omega)).trans H.r1,(h 2 (by omega)).trans H.r2⟩
def xz(w:World)(k f:Value)(x:ByteArray):(sy w k f x).heap.size=w.heap.size+4:=by simp[sy,z7]
def y7(w:World)(k f:Value)(x:ByteArray)(b:Nat)(hb:b<w.heap.size):(sy w k f x).heap[b]? = w.heap[b]?:=by
 unfold sy z7;rw[Go.Av.alloc_old _ _ (by simp;omega),Go.Av.alloc_old _ _ (by simp;omega),Go.Av.alloc_old _ _ (by simp;omega),Go.Av.alloc_old _ _ hb]
def tL(w:World)(k f:Value)(x:ByteArray):Gro w (sy w k f x):=(((Gro.alloc w _ _).trans (Gro.alloc _ _ _)).trans (Gro.alloc _ _ _)).trans (Gro.alloc _ _ _)
def xy(w:World)(k f:Value)(x:ByteArray):RdRows w.heap.size (sy w k f x) k f (.int .i64 0) (.int .i64 0) (.slice none 0 0) (.slice none 0 0):=by
 unfold sy z7;refine⟨?_,?_,?_⟩
 ·rw[Go.Av.alloc_old _ _ (by simp;omega),Go.Av.alloc_old _ _ (by simp;omega),Go.Av.alloc_old _ _ (by simp)];exact heap_alloc_new w _
 ·rw[Go.Av.alloc_old _ _ (by simp),Go.Av.alloc_old _ _ (by simp)]
  have:=heap_alloc_new (w.alloc (Obj.cells #[k,f] 35)) (Obj.cells #[Value.int IntKind.i64 0,Value.int IntKind.i64 0,Value.slice none 0 0,Value.slice none 0 0] 45)
  rwa [World.size_alloc]at this
 ·rw[Go.Av.alloc_old _ _ (by simp)]
  have:=heap_alloc_new ((w.alloc (Obj.cells #[k,f] 35)).alloc (Obj.cells #[Value.int IntKind.i64 0,Value.int IntKind.i64 0,Value.slice none 0 0,Value.slice none 0 0] 45)) (Obj.cells #[Value.int IntKind.i64 0] 39)
  rwa [World.size_alloc,World.size_alloc]at this
def y8(w:World)(k f:Value)(x:ByteArray):(sy w k f x).heap[w.heap.size+3]? = some (.cells #[.string x] 85 (0,0)):=by
 unfold sy
 have:=heap_alloc_new (z7 w k f) (Obj.cells #[.string x] 85)
 have hs:(z7 w k f).heap.size=w.heap.size+3:=by simp[z7]
 rwa [hs]at this
def i7(b:Nat)(w:World)(u0 u1 u2 u3:Value):Gro w (gd b w u0 u1 u2 u3):=(((Gro.setCell _ _ _).trans (Gro.setCell _ _ _)).trans (Gro.setCell _ _ _)).trans (Gro.setCell _ _ _)
def uu(b:Nat)(w:World):Gro w (bP b w):=((Gro.alloc w _ _).trans (i7 _ _ _ _ _ _)).trans (Gro.setCell _ _ _)
def jE{b c:Nat}{w:World}{u0 u1 u2 u3:Value}(h:c≠b):(gd b w u0 u1 u2 u3).heap[c]? = w.heap[c]?:=by
 unfold gd;rw[aF h,aF h,aF h,aF h]
def uv{b c:Nat}{w:World}(h:c<b)(hs:b<=w.heap.size):(bP b w).heap[c]? = w.heap[c]?:=by
 unfold bP;rw[aF (by simp;omega),jE (by omega)];exact Go.Av.alloc_old _ _ (by omega)
def gL{S:am}{w w':World}(hw:Wf S w)(hg:Gro w w')(hs:w.heap.size+1<=w'.heap.size)(hold:∀b,b<w.heap.size->w'.heap[b]? = w.heap[b]?):cv none S [] [] w (.ok lu []) (.returned g8) (bP (w.heap.size+1) w'):=by
 refine⟨S,[],g8,rfl,?_,xc hw (hg.trans (uu _ _)) (fun b hb=>by rw[uv (by omega) hs];exact hold b hb),fun sz hsz=>by cases hsz⟩;simp only[lu,g8,VR,aP];refine⟨[.agg #[.int .i64 0,.int .i64 0,.slice none 0 0,.slice none 0 0],.int .i64 34],rfl,_,_,rfl,⟨[.int .i64 0,.int .i64 0,.slice none 0 0,.slice none 0 0],rfl,_,_,rfl,rfl,_,_,rfl,rfl,_,_,rfl,?_,_,_,rfl,?_,rfl⟩,_,_,rfl,rfl,rfl⟩
 ·exact⟨none,0,rfl,FZ _,fun _=>rfl,fun q hq=>by cases hq⟩
 ·exact⟨none,0,rfl,FZ _,fun _=>rfl,fun q hq=>by cases hq⟩
def gY{v:AV}{h:Hp}(hne:dI 81 (.pan v h)≠.fail):v= .iface 81 (.agg [])/\dI 81 (.pan v h)= .ok lu []:=by
 unfold dI at hne |-;split at hne
 ·rename_i heq;cases heq
 ·rename_i t h' heq;cases heq;cases hb:Nat.beq t 81 with
  |false=>rw[hb]at hne;exact absurd rfl hne
  |true=>rw[F6 hb];exact⟨rfl,rfl⟩
 ·exact absurd rfl hne
 ·exact absurd rfl hne
def tJ{S:am}{β:List a7}{v:Value}(h:VR S β (.iface 81 (.agg [])) v):v= .iface 81 (.agg #[]):=by
 simp only[VR,aP]at h;obtain⟨x,rfl,vs,rfl,rfl⟩:=h;rfl
def tm{n:Nat}{s:List UInt8}{b:Nat}(h:ba [(n,1)] [[AV.str s]] b):b=n:=by
 obtain⟨l,cs,m,h1,h2,h3⟩:=h;cases l with
 |zero=>simp at h3;exact h3.1.symm
 |succ l=>simp at h1
def qF{m:Nat}{v:AV}(hm:m≠1)(h:bq m v=true):∃cs,v= .agg cs:=by
 simp only[bq,FV]at h;have h1:=h.1;cases v<;>simp[bS]at h1<;>first|exact⟨_,rfl⟩|(exfalso;omega)
def wT(call:FuncId->List AV->M AV)(hC:bC Tryz.prog own call){S S1:am}{β1:List a7}{w w1:World}{h1:Hp}{k f u0 u1 u2 u3:Value}{t v:AV}(hw:Wf S w)(hg1:kL S1 β1 h1 w1)(L1:Go.Av.Left (ba [] []) S [] w S1 β1 w1 h1)(hsz:w.heap.size+4<=w1.heap.size)(hB:∀b,w.heap.size<=b->b<w.heap.size+3->¬ba β1 h1 b/\∀o,S1 b o=none)(hR:RdRows w.heap.size w1 k f u0 u1 u2 u3)(ht:VR S1 β1 t (.agg #[k,f]))(hv:VR S1 β1 v (.agg #[u0,u1,u2,u3]))(hok:bq 4 v=true)(hr:dI 81 ((ae (call 20 [t,v]) fun r=>aB r (M.pure (.tup [.agg (ab v),.int .i64 0])) (dy (.iface 81 (.agg [])))) h1)≠.fail):
  Calls Tryz.prog 20 #[.agg #[k,f],.agg #[u0,u1,u2,u3]] w1 (pp w.heap.size k f u0 u1 u2 u3 (cv none S [] [] w (dI 81 ((ae (call 20 [t,v]) fun r=>aB r (M.pure (.tup [.agg (ab v),.int .i64 0])) (dy (.iface 81 (.agg [])))) h1)))):=by
 have hne:call 20 [t,v] h1≠.fail:=fun e=>hr (by unfold ae;rw[e];rfl);have hc:=(hC 20 [t,v] h1 S1 β1 w1 [.agg #[k,f],.agg #[u0,u1,u2,u3]] hne hg1 L1.wf L1.heap (by simp only[aP];exact⟨_,_,rfl,ht,_,_,rfl,hv,rfl⟩)).1;refine hc.mono fun en w2 hp=>?_;have rows:∀S2 β2 h2,Go.Av.Left (ba β1 h1) S1 β1 w1 S2 β2 w2 h2->RdRows w.heap.size w2 k f u0 u1 u2 u3:=fun S2 β2 h2 L=>hR.keep fun j hj=>(L.keep _ (by omega) (hB _ (by omega) (by omega)).1).1;have old:∀S2 β2 h2,Go.Av.Left (ba β1 h1) S1 β1 w1 S2 β2 w2 h2->(Gro w w2/\w.heap.size+1<=w2.heap.size/\∀b,b<w.heap.size->w2.heap[b]? = w.heap[b]?):=fun S2 β2 h2 L=>by
  have LL:=L1.trans L
  have:=L.size
  exact⟨LL.gro,by omega,fun b hb=>(LL.keep b hb (fun ho=>by obtain⟨l,_,_,q1,_⟩:=ho;simp at q1)).1⟩
 unfold ae at hr |-;generalize call 20 [t,v] h1=r at hr hne hp |-;cases r with
 |fail=>exact absurd rfl hne
 |pan pv h2=>
  obtain⟨S2,β2,x,rfl,hx,L⟩:=hp;obtain⟨rfl,hcr⟩:=gY hr
  have:=tJ hx
  subst this;obtain⟨g1,g2,g3⟩:=old _ _ _ L;refine⟨rows _ _ _ L,.inr ⟨.inr rfl,?_⟩⟩;show cv none S [] [] w (dI 81 (.pan (.iface 81 (.agg [])) h2)) _ _;rw[hcr];exact gL hw g1 g2 g3
 | ok rv h2=>
  obtain⟨S2,β2,x,rfl,hx,L,-⟩:=hp;obtain⟨g1,g2,g3⟩:=old _ _ _ L;have hrv:∃b,rv= .bool b:=by
   cases rv
   case bool b=>exact⟨b,rfl⟩
   all_goals exact absurd rfl hr
  obtain⟨b,rfl⟩:=hrv;simp only[VR]at hx;subst hx;refine⟨rows _ _ _ L,?_⟩;cases b with
  |false=>exact .inr ⟨.inl rfl,gL hw g1 g2 g3⟩
  | true=>
   refine .inl ⟨rfl,?_⟩;have LL:=(L1.trans L).store (w2:=(gd (w.heap.size+1) w2 u0 u1 u2 u3).setCell ⟨w.heap.size+2,0,none⟩ (.int .i64 0)) ((i7 _ _ _ _ _ _).trans (Gro.setCell _ _ _)) (fun b=>w.heap.size<=b/\b<w.heap.size+3) (fun b hb=>by
    have hs:=L1.size;refine⟨hb.1,fun ho=>?_,fun o=>?_⟩
    ·rcases L.owned b ho with ho|ho
     ·exact (hB b hb.1 hb.2).1 ho
     ·omega
    ·rw[(L.keep b (by omega) (hB b hb.1 hb.2).1).2 o];exact (hB b hb.1 hb.2).2 o) (fun b hb=>by
    rw[aF (by intro e;simp at e;omega),jE (by omega)])
   refine⟨S2,β2,_,rfl,?_,LL,fun sz hsz=>by cases hsz⟩;obtain⟨_,hvs,_⟩:=ej hok (hv.mono L.le L.ext);simp only[VR,aP];exact⟨[.agg #[u0,u1,u2,u3],.int .i64 0],rfl,_,_,rfl,⟨[u0,u1,u2,u3],rfl,hvs⟩,_,_,rfl,rfl,rfl⟩
def nX(call:FuncId->List AV->M AV)(t v:AV):M AV:=ae (ui 4 v) fun _=>ae kd fun s=>ae (ah (rO s)) fun b=>aB b (ae (call 20 [t,v]) fun r=>aB r (M.pure (.tup [.agg (ab v),.int .i64 0])) (dy (.iface 81 (.agg [])))) (dy (.iface 81 (.agg [])))
theorem qN(call:FuncId->List AV->M AV)(t:AV):nP 81 54 20 call t=ae (call 54 [.hp 0 0,.int .i64 4]) (nX call t):=rfl
def xR(call:FuncId->List AV->M AV)(t v:AV)(h1:Hp)(hr:dI 81 (nX call t v h1)≠.fail):bq 4 v=true/\∃s',h1[0]? = some [AV.str s']/\nX call t v h1=aB (.bool s'.isEmpty) (ae (call 20 [t,v]) fun r=>aB r (M.pure (.tup [.agg (ab v),.int .i64 0])) (dy (.iface 81 (.agg [])))) (dy (.iface 81 (.agg []))) h1:=by
 have e1:∀g:AV->M AV,ae (ui 4 v) g h1=bif bq 4 v then g v h1 else .fail:=by intro g;unfold ae ui;cases bq 4 v<;>rfl
 unfold nX at hr |-;rw[e1]at hr |-;cases hk:bq 4 v with
 |false=>rw[hk]at hr;exact absurd rfl hr
 | true=>
  rw[hk]at hr;simp only[FW]at hr |-;by_cases hex:∃s',h1[0]? = some [AV.str s']
  ·obtain⟨s',hrow⟩:=hex;have e2:∀g:AV->M AV,ae kd g h1=g (.str s') h1:=by intro g;unfold ae kd;rw[hrow]
   exact⟨trivial,s',hrow,by rw[e2];rfl⟩
  ·have e2:∀g:AV->M AV,ae kd g h1= .fail:=by
    intro g;have:kd h1= .fail:=by
     unfold kd;split
     ·exact absurd ⟨_,by assumption⟩ hex
     ·rfl
    unfold ae;rw[this]
   rw[e2]at hr;exact absurd rfl hr
def Ds(call:FuncId->List AV->M AV)(hC:bC Tryz.prog own call)(args:List AV)(h:Hp)(S:am)(β:List a7)(w:World)(vs:List Value)(hr:md 81 54 20 call args h≠.fail)(hg:kL S β h w)(hw:Wf S w)(hh:bm S β w h)(hv:aP S β args vs):
  Calls Tryz.prog 19 vs.toArray w (cv none S β h w (md 81 54 20 call args h)):=by
 have hr':i8 81 54 20 call (di az args) []≠.fail:=by
  intro hf;unfold md eG at hr;rw[hf]at hr;exact hr rfl
 have hv':=pG hv;have hg':kL S [] [] w:=⟨hg.1,fun b _ hb=>by obtain⟨l,_,_,h1,_⟩:=hb;simp at h1,hg.2.2⟩
 suffices key:Calls Tryz.prog 19 vs.toArray w (cv none S [] [] w (i8 81 54 20 call (di az args) []))from key.mono fun en w' hp=>qq hw hh hp
 generalize di az args=ar at hr' hv' |-;clear hr hv hh hg;unfold i8 at hr' |-;split at hr'
 case h_2=>exact absurd rfl hr'
 rename_i t s _;cases ho:bq 2 t with
 |false=>rw[ho]at hr';exact absurd rfl hr'
 | true=>
  rw[ho]at hr';simp only[FW]at hr' |-;simp only[aP]at hv';obtain⟨vt,r,rfl,ht,hv'⟩:=hv';obtain⟨xv,r',rfl,hxv,rfl⟩:=hv';simp only[VR]at hxv;obtain⟨x,rfl,hx⟩:=hxv;obtain⟨g1,g2,g3⟩:=ej ho ht;obtain⟨tc,rfl⟩:=qF (by decide) ho;have ht0:=ht;simp only[VR]at ht;obtain⟨us,rfl,hus⟩:=ht;simp only[Value.cells]at g1 g3
  match us,g1 with
  | [k,f],_=>
   clear hus g2;have hk:=g3 k (by simp);have hf:=g3 f (by simp);refine uZ k f hk hf x w _ ?_;have hs0:=xz w k f x;have hold:=y7 w k f x;have hX:bm S [(w.heap.size+3,1)] (sy w k f x) [[AV.str s]]:=bm.push (β:=[]) (h:=[]) bm.nil hw hold (by omega) (y8 w k f x) (by simp only[aP,VR];exact⟨_,_,rfl,⟨x,rfl,hx⟩,rfl⟩) (fun t' ht=>by obtain⟨a,ha,hb⟩:=ht;rw[GU.1 ha]at hb;cases hb);have hG:kL S [(w.heap.size+3,1)] [[AV.str s]] (sy w k f x):=⟨hg'.1.mono fun b hb=>hold b (Gu hb hg'.1.lt),fun b hb ho=>by have:=tm ho;have:=hg'.1.lt;omega,hg'.2.2⟩;have hne:call 54 [.hp 0 0,.int .i64 4] [[AV.str s]]≠.fail:=fun e=>hr' (by rw[qN];unfold ae;rw[e];rfl);have hc:=(hC 54 [.hp 0 0,.int .i64 4] [[AV.str s]] S [(w.heap.size+3,1)] (sy w k f x) [.pointer (some ⟨w.heap.size+3,0,none⟩),.int .i64 4] hne hG (hw.grow hold) hX (by simp only[aP,VR];exact⟨_,_,rfl,⟨(w.heap.size+3,1),rfl,by simp,rfl⟩,_,_,rfl,rfl,rfl⟩)).1;refine hc.mono fun en w1 hp=>?_;have rows:∀S1 β1 h1,Go.Av.Left (ba [(w.heap.size+3,1)] [[AV.str s]]) S [(w.heap.size+3,1)] (sy w k f x) S1 β1 w1 h1->RdRows w.heap.size w1 k f (.int .i64 0) (.int .i64 0) (.slice none 0 0) (.slice none 0 0):=fun S1 β1 h1 L=>(xy w k f x).keep fun j hj=>(L.keep _ (by omega) (fun ho=>by have:=tm ho;omega)).1;rw[qN]at hr' |-;unfold ae at hr' |-;generalize call 54 [.hp 0 0,.int .i64 4] [[AV.str s]]=r at hr' hne hp |-;cases r with
   |fail=>exact absurd rfl hne
   |pan pv h1=>
    obtain⟨S1,β1,z,rfl,hz,L⟩:=hp;obtain⟨rfl,hcr⟩:=gY hr'
    have:=tJ hz
    subst this;have LL:=nE (β:=[]) (h:=[]) hw bm.nil (tL w k f x) hold (by simp) L;refine⟨rows _ _ _ L,.inr ⟨rfl,?_⟩⟩;show cv none S [] [] w (dI 81 (.pan (.iface 81 (.agg [])) h1)) _ _;rw[hcr]
    have:=L.size
    exact gL hw LL.gro (by omega) fun b hb=>(LL.keep b hb (fun ho=>by obtain⟨l,_,_,q1,_⟩:=ho;simp at q1)).1
   | ok v h1=>
    obtain⟨S1,β1,z,rfl,hz,L,-⟩:=hp;have hR1:=rows _ _ _ L;have hs1:=L.size;have hown:∀b,w.heap.size<=b->b<w.heap.size+3->¬ba β1 h1 b/\∀o,S1 b o=none:=fun b hb1 hb2=>by
     refine⟨fun ho=>?_,fun o=>?_⟩
     ·rcases L.owned b ho with ho|ho
      ·have:=tm ho;omega
      ·omega
     ·rw[(L.keep b (by omega) (fun ho=>by have:=tm ho;omega)).2 o];exact hw.none hb1 o
    have LL:=nE (β:=[]) (h:=[]) hw bm.nil (tL w k f x) hold (by simp) L;change dI 81 (nX call (.agg tc) v h1)≠.fail at hr';show pq w.heap.size k f (cv none S [] [] w (dI 81 (nX call (.agg tc) v h1))) _ _;obtain⟨hok,s',hrow,e3⟩:=xR call (.agg tc) v h1 hr';rw[e3]at hr' |-;refine⟨hR1,.inl ?_⟩;obtain⟨hlen,ω,hHr⟩:=L.heap;have hb0:β1[0]? = some (w.heap.size+3,1):=L.ext 0 _ rfl;obtain⟨y',q1,⟨ty,q2⟩,_,q4,_⟩:=hHr.cells hrow (by simp) hb0 (by decide);simp only[aP,VR]at q4;obtain⟨_,_,q5,⟨y,rfl,hy⟩,rfl⟩:=q4;have hyc:w1.cell? ⟨w.heap.size+3,0,none⟩=some (.string y):=by
     have h0:y'[0]? = some (.string y):=by
      have:=FX (fun l=>l[0]?) q5
      simpa using this
     simp[World.cell?,q2,h0]
    obtain⟨p1,p2,p3⟩:=ej hok hz;have hz0:=hz;obtain⟨vc,rfl⟩:=qF (by decide) hok;simp only[VR]at hz;obtain⟨us,rfl,hus⟩:=hz;simp only[Value.cells]at p1 p3
    match us,p1 with
    | [u0,u1,u2,u3],_=>
     refine⟨u0,u1,u2,u3,y,p3 u0 (by simp),p3 u1 (by simp),p3 u2 (by simp),p3 u3 (by simp),rfl,hyc,?_⟩;have L2:=LL.store (w2:=gd (w.heap.size+1) w1 u0 u1 u2 u3) (i7 _ _ _ _ _ _) (fun b=>w.heap.size<=b/\b<w.heap.size+3) (fun b hb=>⟨hb.1,hown b hb.1 hb.2⟩) (fun b hb=>jE (by omega));have hs2:w.heap.size+4<=(gd (w.heap.size+1) w1 u0 u1 u2 u3).heap.size:=by have:=(i7 (w.heap.size+1) w1 u0 u1 u2 u3).size;omega
     cases hse:s'.isEmpty with
     |false=>
      refine .inl ⟨?_,?_⟩
      ·rw[ByteArray.toList_eq,hy,hse]
      ·exact gL hw L2.gro (by omega) fun b hb=>(L2.keep b hb (fun ho=>by obtain⟨l,_,_,q1,_⟩:=ho;simp at q1)).1
     | true=>
      rw[hse]at hr';refine .inr ⟨?_,?_⟩
      ·have:s'=[]:=Il.1 hse;subst this;obtain⟨⟨l⟩⟩:=y;simp only at hy;rw[hy]
      ·exact wT call hC hw (wP hg' L2) L2 hs2 hown (hR1.put u0 u1 u2 u3) (ht0.mono L2.le (dm.nil _)) hz0 hok hr'
noncomputable def wn(n:Nat)(a:Ann):Cx:={ T:=T,call:=fun _ _=>M.fail,own:=own,iso:=fun _=>false,nw:=fun _=>false,nt:=n,ann:=a }
def m0(n:Nat)(a:Ann):bC Tryz.prog (wn n a).own (wn n a).call:=fun f args h S β w vs hr=>absurd rfl hr
def ta(n:Nat)(a:Ann):IsoCall (wn n a):=⟨fun f args h=>Bool.noConfusion h,fun f args h=>Bool.noConfusion h⟩
def C7(e:AV)(es:List AV):bU (wn Tryz.f249.ntmps ou) (bZ 0) Tryz.f249 none [.sl (e:: es)]=ae (appH T 30 true (.sl []) (.sl (e:: es))) fun v=>ae (ah (some v)) M.pure:=by kernel_rfl
def C8:bU (wn Tryz.f249.ntmps ou) (bZ 0) Tryz.f249 none [.hn]=ae (ah (some (.sl []))) M.pure:=by kernel_rfl
def C9(l off:Nat):bU (wn Tryz.f249.ntmps ou) (bZ 0) Tryz.f249 none [.hs l off 0 1 false]=ae (appH T 30 true (.sl []) (.hs l off 0 1 false)) fun v=>ae (ah (some v)) M.pure:=by kernel_rfl
def C2(e:AV)(es:List AV):bU (wn Tryz.f219.ntmps ot) (bZ 0) Tryz.f219 none [.sl (e:: es)]=ae (ah (cZ T 22 (.sl []) (.sl (e:: es)))) fun v=>ae (ah (some v)) M.pure:=by kernel_rfl
def C3:bU (wn Tryz.f219.ntmps ot) (bZ 0) Tryz.f219 none [.hn]=ae (ah (some (.sl []))) M.pure:=by kernel_rfl
def C5(l off:Nat):bU (wn Tryz.f219.ntmps ot) (bZ 0) Tryz.f219 none [.hs l off 0 1 false]=ae (ah (cZ T 22 (.sl []) (.hs l off 0 1 false))) fun v=>ae (ah (some v)) M.pure:=by kernel_rfl
def C6(l off:Nat):cZ T 22 (.sl []) (.hs l off 0 1 false)=some (.sl []):=by rfl
def BJ(call:FuncId->List AV->M AV)(args:List AV)(h:Hp)(S:am)(β:List a7)(w:World)(vs:List Value)(hr:fj T 30 call args h≠.fail)(hg:kL S β h w)(hw:Wf S w)(hh:bm S β w h)(hv:aP S β args vs):
  Calls Tryz.prog 249 vs.toArray w (cv none S β h w (fj T 30 call args h)):=by
 have key:∀es,args=[.sl es]->Calls Tryz.prog 249 vs.toArray w (cv none S β h w (fj T 30 call args h)):=by
  rintro es rfl;exact (jR (cx:=wn Tryz.f249.ntmps ou) (E:=fun es h=>fj T 30 call [.sl es] h) tok (m0 _ _) (ta _ _) Tryz.func249 rfl (fun h=>by rfl) (fun e es h=>by rw[C7];exact congrFun (wd _) h) (fun h=>by rw[C8];rfl) (fun l off h=>by rw[C9];rfl) hr hg hw hh hv).1
 unfold fj at hr;split at hr
 ·exact key _ rfl
 ·exact absurd rfl hr
def BI(call:FuncId->List AV->M AV)(args:List AV)(h:Hp)(S:am)(β:List a7)(w:World)(vs:List Value)(hr:gm T 22 call args h≠.fail)(hg:kL S β h w)(hw:Wf S w)(hh:bm S β w h)(hv:aP S β args vs):
  Calls Tryz.prog 219 vs.toArray w (cv none S β h w (gm T 22 call args h)):=by
 have key:∀es,args=[.sl es]->Calls Tryz.prog 219 vs.toArray w (cv none S β h w (gm T 22 call args h)):=by
  rintro es rfl;exact (jR (cx:=wn Tryz.f219.ntmps ot) (E:=fun es h=>gm T 22 call [.sl es] h) tok (m0 _ _) (ta _ _) Tryz.func219 rfl (fun h=>by rfl) (fun e es h=>by rw[C2];exact congrFun (wd _) h) (fun h=>by rw[C3];rfl) (fun l off h=>by rw[C5,C6];rfl) hr hg hw hh hv).1
 unfold gm at hr;split at hr
 ·exact key _ rfl
 ·exact absurd rfl hr
def Ct:Prop:=∀call,bC Tryz.prog own call->∀(args:List AV)(h:Hp)(S:am)(β:List a7)(w:World)(vs:List Value),sQ 39 .i64 (.agg [.int .i64 0,.int .i64 0,.sl [],.sl []]) call args h≠.fail->kL S β h w->Wf S w->bm S β w h->aP S β args vs->
 Calls Tryz.prog 132 vs.toArray w (cv none S β h w (sQ 39 .i64 (.agg [.int .i64 0,.int .i64 0,.sl [],.sl []]) call args h))
def jH(w:World):World:=(w.alloc (Obj.cells #[Value.int IntKind.i64 0,Value.int IntKind.i64 0,Value.slice none 0 0,Value.slice none 0 0] 45)).alloc (Obj.cells #[Value.int IntKind.i64 0] 39)
def sR(w w':World)(u0 u1 u2 u3 e:Value):World:=((((w'.setCell ⟨w.heap.size,0,none⟩ u0).setCell ⟨w.heap.size,1,none⟩ u1).setCell ⟨w.heap.size,2,none⟩ u2).setCell ⟨w.heap.size,3,none⟩ u3).setCell ⟨w.heap.size+1,0,none⟩ e
def E2(w:World)(R:Ending->World->Prop):Ending->World->Prop:=fun e w'=>
 w'.heap[w.heap.size]? = (jH w).heap[w.heap.size]? /\w'.heap[w.heap.size+1]? = (jH w).heap[w.heap.size+1]? /\
 ((∃u0 u1 u2 u3:Value,u0.oneCell'=true/\u1.oneCell'=true/\u2.oneCell'=true/\u3.oneCell'=true/\e= .returned (.agg #[u0,u1,u2,u3])/\R (.returned (.tuple #[.agg #[u0,u1,u2,u3],.int .i64 0])) (sR w w' u0 u1 u2 u3 (.int .i64 0)))\/
  ∃n,e= .panicked [{ v:=.iface 39 (.int .i64 n),recovered:=false }]/\R (.returned (.tuple #[.agg #[.int .i64 0,.int .i64 0,.slice none 0 0,.slice none 0 0],.int .i64 n])) (sR w w' (.int .i64 0) (.int .i64 0) (.slice none 0 0) (.slice none 0 0) (.int .i64 n)))
set_option maxHeartbeats 4000000 in
def xW(g:FuncId)(x y:Array Value)(w:World)(R:Ending->World->Prop)(hfn:(Tryz.prog.funcs[g]?).any (fun fn=>fn.body.isSome&&!(fn.name== "runtime.NumGoroutine"))=true)(hc:Calls Tryz.prog g (x++y) (jH w) (E2 w R)):Calls Tryz.prog 132 #[.func (.func g) x y] w R:=by
 have hmf:∀(fn:Fn)(first cap:Array Value)(w:World),(Instr.makeFunc fn first cap).run Tryz.prog w= .ok (.func fn first cap) w:=fun _ _ _ _=>rfl
 go_enter_defers Tryz.func132,Tryz.ntmps132
 go_wp2
 rw[eL hfn,Oper.upon_enter];refine hc.mono fun e w' h=>?_;obtain⟨k0,k1,h⟩:=h;have r0:w'.heap[w.heap.size]? = some (.cells #[Value.int IntKind.i64 0,Value.int IntKind.i64 0,Value.slice none 0 0,Value.slice none 0 0] 45):=by rw[k0];exact (Go.Av.alloc_old _ _ (by simp)).trans (heap_alloc_new w _)
 have r1:w'.heap[w.heap.size+1]? = some (.cells #[Value.int IntKind.i64 0] 39):=by rw[k1];have:=heap_alloc_new (w.alloc (Obj.cells #[Value.int IntKind.i64 0,Value.int IntKind.i64 0,Value.slice none 0 0,Value.slice none 0 0] 45)) (Obj.cells #[Value.int IntKind.i64 0] 39);rwa [World.size_alloc]at this
 have c0:w'.cell? ⟨w.heap.size,0,none⟩=some (.int .i64 0):=by simp[World.cell?,r0]
 have c1:w'.cell? ⟨w.heap.size,1,none⟩=some (.int .i64 0):=by simp[World.cell?,r0]
 have c2:w'.cell? ⟨w.heap.size,2,none⟩=some (.slice none 0 0):=by simp[World.cell?,r0]
 have c3:w'.cell? ⟨w.heap.size,3,none⟩=some (.slice none 0 0):=by simp[World.cell?,r0]
 have d0:w'.cell? ⟨w.heap.size+1,0,none⟩=some (.int .i64 0):=by simp[World.cell?,r1]
 have f0:w'.frozen? ⟨w.heap.size,0,none⟩=false:=by simp[World.frozen?,r0]
 have f1:w'.frozen? ⟨w.heap.size,1,none⟩=false:=by simp[World.frozen?,r0]
 have f2:w'.frozen? ⟨w.heap.size,2,none⟩=false:=by simp[World.frozen?,r0]
 have f3:w'.frozen? ⟨w.heap.size,3,none⟩=false:=by simp[World.frozen?,r0]
 have g0:w'.frozen? ⟨w.heap.size+1,0,none⟩=false:=by simp[World.frozen?,r1]
 clear k0 k1 r0 r1 hc hmf;rcases h with⟨u0,u1,u2,u3,o0,o1,o2,o3,rfl,hR⟩|⟨n,rfl,hR⟩
 ·simp only;rename_i K1 hK1 K hK;apply hK;clear hK;have hK1':=hK1;clear hK1;have s0:∀a m (w:World),(store a u0 m).run Tryz.prog w=stored Tryz.prog w a u0 m:=fun a m w=>run_store _ w a u0 m o0;have s1:∀a m (w:World),(store a u1 m).run Tryz.prog w=stored Tryz.prog w a u1 m:=fun a m w=>run_store _ w a u1 m o1;have s2:∀a m (w:World),(store a u2 m).run Tryz.prog w=stored Tryz.prog w a u2 m:=fun a m w=>run_store _ w a u2 m o2;have s3:∀a m (w:World),(store a u3 m).run Tryz.prog w=stored Tryz.prog w a u3 m:=fun a m w=>run_store _ w a u3 m o3
  go_wp2
  change Leaves _ _ _ _ _ _ _;refine leaves_cons (f:=165) (args:=#[.pointer (some ⟨w.heap.size,0,none⟩),.pointer (some ⟨w.heap.size+1,0,none⟩)]) (by simp) (by simp[go_sem]) ?_;refine (rG ⟨w.heap.size,0,none⟩ ⟨w.heap.size+1,0,none⟩ _).mono ?_;rintro e u' w'' ⟨rfl,rfl,rfl⟩;simp only[Leaves,settle];refine⟨_,?_,hR⟩;simp[results,Tryz.results132,go_sem,sR,World.cell?_setCell_same,c0,c1,c2,c3,d0]
 ·change Leaves _ _ _ _ _ _ _;refine leaves_cons (f:=165) (args:=#[.pointer (some ⟨w.heap.size,0,none⟩),.pointer (some ⟨w.heap.size+1,0,none⟩)]) (by simp) (by simp[go_sem]) ?_;refine (ug w.heap.size (w.heap.size+1) _ _ _ _ _ n w' c0 c1 c2 c3 d0 f0 f1 f2 f3 g0 (by omega) (by omega)).mono ?_;rintro e u' w'' ⟨rfl,rfl,rfl⟩;simp only[Leaves,settle];refine⟨_,?_,hR⟩;simp[results,Tryz.results132,go_sem,sR,World.cell?_setCell_same,c0,c1,c2,c3,d0]
def jI(w:World):(jH w).heap.size=w.heap.size+2:=by simp[jH]
def xV(w:World)(b:Nat)(hb:b<w.heap.size):(jH w).heap[b]? = w.heap[b]?:=by
 unfold jH;rw[Go.Av.alloc_old _ _ (by simp;omega),Go.Av.alloc_old _ _ hb]
def re(w:World):Gro w (jH w):=(Gro.alloc w _ _).trans (Gro.alloc _ _ _)
def rc(w w':World)(u0 u1 u2 u3 e:Value):Gro w' (sR w w' u0 u1 u2 u3 e):=
 ((((Gro.setCell _ _ _).trans (Gro.setCell _ _ _)).trans (Gro.setCell _ _ _)).trans (Gro.setCell _ _ _)).trans (Gro.setCell _ _ _)
def oc(w w':World)(u0 u1 u2 u3 e:Value)(b:Nat)(hb:¬(w.heap.size<=b/\b<(jH w).heap.size)):(sR w w' u0 u1 u2 u3 e).heap[b]? = w'.heap[b]?:=by
 rw[jI]at hb;unfold sR;rw[aF (by simp;omega),aF (by simp;omega),aF (by simp;omega),aF (by simp;omega),aF (by simp;omega)]
def uf{call:FuncId->List AV->M AV}{f:AV}{xs:List AV}{h:Hp}(hr:b7 call f xs h≠.fail):∃g a c,f= .fn (.func g) a c:=by
 unfold b7 at hr;split at hr
 ·exact⟨_,_,_,rfl⟩
 ·exact absurd rfl hr
theorem BR:Ct:=by
 intro call hC args h S β w vs hr hg hw hh hv
 have key:∀f,args=[f]->Calls Tryz.prog 132 vs.toArray w (cv none S β h w (sQ 39 .i64 (.agg [.int .i64 0,.int .i64 0,.sl [],.sl []]) call args h)):=by
  rintro f rfl;have ht:sQ 39 .i64 (.agg [.int .i64 0,.int .i64 0,.sl [],.sl []]) call [f] h=xU 39 .i64 (.agg [.int .i64 0,.int .i64 0,.sl [],.sl []]) (b7 call f [] h):=rfl;rw[ht]at hr |-;clear ht;simp only[aP]at hv;obtain⟨fv,_,rfl,hv,rfl⟩:=hv;have hne:b7 call f [] h≠.fail:=fun e=>by rw[e]at hr;exact hr rfl
  obtain⟨g,a,c,rfl⟩:=uf hne
  ·have hcv:b7 call (.fn (.func g) a c) [] h=call g (a++[]++c) h:=rfl;rw[hcv]at hr hne |-;simp only[VR]at hv;obtain⟨x,y,rfl,hx,hy⟩:=hv;have hold:=xV w;have hv2:aP S β (a++[]++c) (x++y):=by simpa using hx.append hy
   obtain⟨hcall,hfn⟩:=hC g (a++[]++c) h S β (jH w) (x++y) hne ⟨hg.1.mono fun b hb=>hold b (Gu hb hg.1.lt),hg.2⟩ (hw.grow hold) (hh.grow hold) hv2;refine xW g x.toArray y.toArray w _ hfn ?_;have e:(x++y).toArray=x.toArray++y.toArray:=by simp
   rw[<- e];refine hcall.mono fun en w' hp=>?_;have kk:∀S' β' h',Go.Av.Left (ba β h) S β (jH w) S' β' w' h'->w'.heap[w.heap.size]? = (jH w).heap[w.heap.size]? /\w'.heap[w.heap.size+1]? = (jH w).heap[w.heap.size+1]?:=fun S' β' h' L=>
    ⟨(L.keep _ (by rw[jI];omega) fun ho=>by have:=hh.low ho;omega).1,(L.keep _ (by rw[jI];omega) fun ho=>by have:=hh.low ho;omega).1⟩
   generalize call g (a++[]++c) h=r at hr hne hp |-;cases r with
   |fail=>exact absurd rfl hne
   | ok v h'=>
    obtain⟨S',β',u,rfl,hu,L,_⟩:=hp;refine⟨(kk _ _ _ L).1,(kk _ _ _ L).2,.inl ?_⟩;simp only[xU]at hr |-;cases hok:bq 4 v with
    |false=>rw[hok]at hr;exact absurd rfl hr
    | true=>
     obtain⟨g1,g2,g3⟩:=ej hok hu;have hcs:∃cs,v= .agg cs:=by
      simp only[bq,FV]at hok;have h1:=hok.1;cases v<;>simp[bS]at h1;exact⟨_,rfl⟩
     obtain⟨cs,rfl⟩:=hcs;simp only[VR]at hu;obtain⟨us,rfl,hus⟩:=hu;simp only[Value.cells]at g1 g3
     match us,g1 with
     |[u0,u1,u2,u3],_=>
      refine⟨u0,u1,u2,u3,g3 u0 (by simp),g3 u1 (by simp),g3 u2 (by simp),g3 u3 (by simp),rfl,S',β',_,rfl,?_,nF (re w) hold L (rc ..) (fun b hb=>oc w w' _ _ _ _ _ b hb) hw hh,fun sz hsz=>by cases hsz⟩;simp only[VR,aP];exact⟨[.agg #[u0,u1,u2,u3],.int .i64 0],rfl,_,_,rfl,⟨[u0,u1,u2,u3],rfl,hus⟩,_,_,rfl,rfl,rfl⟩
   | pan v h'=>
    obtain⟨S',β',u,rfl,hu,L⟩:=hp;refine⟨(kk _ _ _ L).1,(kk _ _ _ L).2,.inr ?_⟩;unfold xU at hr |-;split at hr
    ·rename_i heq;cases heq
    ·rename_i t' k' n h'' heq;cases heq;cases hb:(Nat.beq t' 39&&decide (k'=IntKind.i64))with
     |false=>rw[hb]at hr;exact absurd rfl hr
     |true=>
      simp only[FV,F5]at hb;obtain⟨hb1,rfl⟩:=hb
      have:=F6 hb1
      subst this;simp only[VR]at hu;obtain⟨u',rfl,rfl⟩:=hu;refine⟨n,rfl,S',β',_,rfl,?_,nF (re w) hold L (rc ..) (fun b hb=>oc w w' _ _ _ _ _ b hb) hw hh,fun sz hsz=>by cases hsz⟩;simp only[VR,aP];refine⟨[.agg #[.int .i64 0,.int .i64 0,.slice none 0 0,.slice none 0 0],.int .i64 n],rfl,_,_,rfl,⟨[.int .i64 0,.int .i64 0,.slice none 0 0,.slice none 0 0],rfl,_,_,rfl,rfl,_,_,rfl,rfl,_,_,rfl,?_,_,_,rfl,?_,rfl⟩,_,_,rfl,rfl,rfl⟩
      ·exact⟨none,0,rfl,FZ _,fun _=>rfl,fun q hq=>by cases hq⟩
      ·exact⟨none,0,rfl,FZ _,fun _=>rfl,fun q hq=>by cases hq⟩
    ·exact absurd rfl hr
 rcases args with _|⟨f,_|⟨f2,r⟩⟩
 ·exact absurd rfl hr
 ·exact key _ rfl
 ·exact absurd rfl hr
end Go.Proofs.YtihmmkncokjbaaaGreatDoor
namespace Go.Proofs.YtihmmkncokjbaaaGreatDoor
open Go Go.Av Go.RowKit
set_option maxRecDepth 100000
def EN{α:Type}{f k:Nat}{x:α}{o:Option α}{y:α}(h:(bif Nat.beq f k then some x else o)=some y):(f=k/\x=y)\/o=some y:=by
 cases hb:Nat.beq f k with
 |true=>rw[hb]at h;exact .inl ⟨F6 hb,by simpa using h⟩
 |false=>rw[hb]at h;exact .inr h
def wa{α:Type}{f k:Nat}{x y:α}{o:Option α}{P:Prop}(h1:f=k->x=y->P)(h2:o=some y->P)(h:(bif Nat.beq f k then some x else o)=some y):P:=(EN h).elim (fun h=>h1 h.1 h.2) h2
def ET:GoodPg Tryz.prog pg where
 tok:=tok
 funcs:=wK
 other:=by
  intro f E hE call hC args h S β w vs hr hg hw hh hv;have h0:other f=some E:=hE;unfold other at h0;revert h0
  repeat' refine wa ?_ ?_
  all_goals first
   |(intro h0;cases h0;done)
   |(rintro rfl rfl;exact absurd rfl hr)
   |(rintro rfl rfl;exact⟨Ds call hC args h S β w vs hr hg hw hh hv,by kernel_rfl⟩)
   |(rintro rfl rfl;exact⟨Dt call args h S β w vs hr hg hw hh hv,by kernel_rfl⟩)
   |(rintro rfl rfl;exact⟨Du call args h S β w vs hr hg hw hh hv,by kernel_rfl⟩)
   |(rintro rfl rfl;exact⟨Dv call args h S β w vs hr hg hw hh hv,by kernel_rfl⟩)
   |(rintro rfl rfl;exact⟨BR call hC args h S β w vs hr hg hw hh hv,by kernel_rfl⟩)
   |(rintro rfl rfl;exact⟨BF call args h S β w vs hr hg hw hh hv,by kernel_rfl⟩)
   |(rintro rfl rfl;exact⟨BG call args h S β w vs hr hg hw hh hv,by kernel_rfl⟩)
   |(rintro rfl rfl;exact⟨BH call args h S β w vs hr hg hw hh hv,by kernel_rfl⟩)
   |(rintro rfl rfl;exact⟨BI call args h S β w vs hr hg hw hh hv,by kernel_rfl⟩)
   |(rintro rfl rfl;exact⟨BJ call args h S β w vs hr hg hw hh hv,by kernel_rfl⟩)
 nw:=by
  intro f hf;have h0:(bif Nat.beq f 249 then true else false)=true:=hf;cases hb:Nat.beq f 249 with
  |true=>
   have:=F6 hb
   subst this;exact⟨_,rfl,fun call args=>uk _ _ _ _⟩
  |false=>rw[hb]at h0;cases h0
end Go.Proofs.YtihmmkncokjbaaaGreatDoor
namespace Go.Proofs.YtihmmkncokjbaaaGreatDoor
open Go Go.Av Go.ChangeShapes Go.WideShapes Go.ChangeAt Go.RowKit
set_option maxRecDepth 1000000
def EX:ownKnob Tryz.prog.godebug=none:=by kernel_rfl
def star: "*" ++ "errors.errorString" = "*errors.errorString" :=by decide
def mg(u:TypeId)(h:Tryz.prog.typeName? 3 u=some "*errors.errorString"):u=272:=
 typeName_ptr_named (nm:= "errors.errorString") (by rw[star];kernel_rfl) (by kernel_rfl) (by decide) u (by rw[star];exact h)
def Bj{W:World}(hL:laidMetH Tryz.prog Rows.stateStaysRow.laid W)(hS:W.ShapedOpen Tryz.prog):GOKw W:=by
 have h0:laidMet Tryz.prog Rows.stateStaysRow.laid W:=hL;have h1:=h0.tail;have h2:=h1.tail;have h3:=h2.tail;have h4:=h3.tail;have hp:=Lib.tabIs_of_head (k:=.u64) (zs:=Lib.pow10Tab) (g:=0) (t:=244) (e:=206) (n:=20) (by kernel_rfl) (by kernel_rfl) (by kernel_rfl) (by kernel_rfl) (by kernel_rfl) (by kernel_rfl) h2;obtain⟨a0,s0,v0,_⟩:=laid_sentinel (g:=3) (ti:=124) (tp:=272) (te:=274) (ts:=9) h3 (by kernel_rfl) (by kernel_rfl) Tryz.underlying124 mg Tryz.underlying272 Tryz.underlying274 rfl rfl Tryz.underlying9 (by kernel_rfl) (by kernel_rfl);obtain⟨a1,s1,v1,_⟩:=laid_sentinel (g:=2) (ti:=124) (tp:=272) (te:=274) (ts:=9) h4 (by kernel_rfl) (by kernel_rfl) Tryz.underlying124 mg Tryz.underlying272 Tryz.underlying274 rfl rfl Tryz.underlying9 (by kernel_rfl) (by kernel_rfl);have hvar:∀ {name:String} {g:Nat} {cs:Array Value},Tryz.prog.globalNamed name=some g->W.var? Tryz.prog name=some cs->∃t fr,W.heap[g]? = some (.cells cs t fr):=by
  intro name g cs hn hv;unfold World.var? at hv;rw[hn]at hv;simp only[Ht]at hv;split at hv
  ·rename_i c t fr hh;simp only[FU]at hv;subst hv;exact⟨t,fr,hh⟩
  ·cases hv
 have hcell:∀ {g:Nat} {v:Value},(∃t fr,W.heap[g]? = some (.cells #[v] t fr))->W.cell? ⟨g,0,none⟩=some v:=by
  rintro g v ⟨t,fr,hh⟩;simp[World.cell?,hh]
 refine⟨?_,hvar (by kernel_rfl) hp,⟨_,_,hcell (hvar (by kernel_rfl) v1)⟩,⟨_,_,hcell (hvar (by kernel_rfl) v0)⟩⟩;exact cell_of_shapedOpen_int (zero:=#[.int .i64 0]) (t:=3) hS (Hn (by kernel_rfl)) (by kernel_rfl) rfl (by kernel_rfl) (by kernel_rfl) Tryz.underlying3
mutual
def iB:DataW Unit->List Value
 |.lit (.bool b)=>[.bool b]
 |.lit (.int k n)=>[.int k n]
 |.lit (.string s)=>[.string ⟨s.toArray⟩]
 |.agg ps=>wo ps
 |_=>[]
def wo:List (DataW Unit)->List Value
 |[]=>[]
 |d:: ds=>iB d++wo ds
end
abbrev E0:ByteArray:={ data:=#[105,110,118,97,108,105,100,32,115,121,110,116,97,120] }
abbrev EY:ByteArray:={ data:=#[118,97,108,117,101,32,111,117,116,32,111,102,32,114,97,110,103,101] }
noncomputable def low:Nat:=(World.holding Tryz.prog default ⟨#[],#[],[]⟩).heap.size
noncomputable def xX:List (Option (Array Value)):=[some (iB Rows.laid_internal_strconv_uint64pow10).toArray,none,some #[.iface 272 (.pointer (some ⟨low,0,none⟩))],some #[.iface 272 (.pointer (some ⟨low+1,0,none⟩))],
 some (iB Rows.laid_math_bits_deBruijn32tab).toArray,some (iB Rows.laid_math_bits_deBruijn64tab).toArray]
def oW:List Obj->List (Option (Array Value))->List Obj
 |.cells _ t fr:: os,some c:: cs=>.cells c t fr:: oW os cs
 |o:: os,_:: cs=>o:: oW os cs
 |os,[]=>os
 |[],_=>[]
noncomputable def jr(os:Os):World:=
 let w0:=World.holding Tryz.prog os ⟨#[.cells #[.string E0] 274,.cells #[.string EY] 274],#[],[]⟩
 { w0 with heap:=(oW w0.heap.toList xX).toArray }
def xa(os:Os)(args:Array Value):laidMet Tryz.prog Rows.stateStaysRow.laid ((jr os).forCall (fun _ _=>0) ⟨#[],args,[]⟩).memory:=
 laidMet_of_run3 8 (by kernel_rfl) (by kernel_rfl) (by kernel_rfl)
end Go.Proofs.YtihmmkncokjbaaaGreatDoor
namespace Go.Proofs.YtihmmkncokjbaaaGreatDoor
open Go Go.Av Go.Av.Ap Go.RowKit
set_option maxRecDepth 1000000
section
variable {H:Type} {enc:TypeId×Value->H} {W:World}
theorem mc:reachBytes=140737488351232:=rfl
theorem Ty.lim_mk{k:Int}{fs:List dQ}(h2:fs.length<=140737488355328)(h3:∀v∈fs,v.2.Lim):(Ty.mk k fs).Lim:=fun j=>match j with
 |0=>trivial
 |j+1=>⟨h2,fun x hx=>h3 x hx j⟩
theorem sA{N:Nat}(h:Rd enc Tryz.prog W N 35 (fun v:Ty=>v.cells) Ty.Lim):Rd enc Tryz.prog W (N+1) 23 (fun l:List dQ=>[cj l]) (fun l=>l.length<=140737488355328/\∀v∈l,v.2.Lim):=
 (mb ((jF Tryz.underlying37 (by kernel_rfl) (dE (sC Tryz.underlying9) rfl (by kernel_rfl:_=1) (dE h rfl (by kernel_rfl:_=2) ma))).map (fun x=>((x.1,x.2.1):dQ)) (cells':=fun f=>ab (bQ f)) (Ok':=fun f=>f.2.Lim) (fun x=>by simp[Ty.cells_eq]) (fun x h=>h.2.1))
  Tryz.underlying23 (by kernel_rfl:_=3) (by decide) (by kernel_rfl:_=48) (ev:=bQ) (m6 fun v=>by rw[iK];rfl)).map id (fun l=>by simp[cj,eW]) (fun l h=>⟨by have:=h.1;rw[mc]at this;simp only[id];omega,h.2⟩)
theorem z8:∀N,Rd enc Tryz.prog W N 35 (fun v:Ty=>v.cells) Ty.Lim
 |0=>.zero
 | N+1=>(jF Tryz.underlying35 (by kernel_rfl) (dE (sB Tryz.underlying3) rfl (by kernel_rfl:_=1) (dE ((sA (z8 N)).le (Nat.le_succ N)) rfl (by kernel_rfl:_=1) ma))).map (fun x=>Ty.mk x.1 x.2.1)
   (fun x=>by simp[Ty.cells_eq,Ty.kind,Ty.fields]) (fun x h=>Ty.lim_mk h.2.1.1 h.2.1.2)
end
end Go.Proofs.YtihmmkncokjbaaaGreatDoor
namespace Go.Proofs.YtihmmkncokjbaaaGreatDoor
open Go Go.Av Go.Av.Ap Go.RowKit
set_option maxRecDepth 1000000
section
variable {H:Type} {enc:TypeId×Value->H} {W:World}
theorem za(N:Nat):Rd enc Tryz.prog W N 22 (fun l:List aJ=>[strs l]) (fun l=>l.length<=8796093022208):=
 (mb (sC Tryz.underlying9) Tryz.underlying22 (by kernel_rfl:_=1) (by decide) (by kernel_rfl:_=16) (wq fun _=>rfl)).map id (fun _=>rfl) (fun l h=>by have:=h.1;rw[mc]at this;simp only[id];omega)
theorem Exp.lim_mk{o n:Int}{s m:aJ}{ns:List aJ}{es:List Exp}(h1:ns.length<=8796093022208)(h2:es.length<=140737488355328)(h3:∀v∈es,v.Lim):(Exp.mk o n s m ns es).Lim:=fun j=>match j with
 |0=>trivial
 |j+1=>⟨h1,h2,fun x hx=>h3 x hx j⟩
end
end Go.Proofs.YtihmmkncokjbaaaGreatDoor
namespace Go.Proofs.YtihmmkncokjbaaaGreatDoor
open Go Go.Av Go.Av.Ap Go.RowKit
set_option maxRecDepth 1000000
def vz(v:Val):Prop:=v.Lim/\kw v
def zh{k n:Int}{ns:List aJ}{vs:List Val}(h0:-9223372036854775808<=n/\n<=9223372036854775807)(h1:ns.length<=140737488355328)(h2:vs.length<=140737488355328)(h3:∀v∈vs,vz v):vz (Val.mk k n ns vs):=
 ⟨fun j=>match j with
  |0=>trivial
  |j+1=>⟨h1,h2,fun x hx=>(h3 x hx).1 j⟩,(fC _).2 ⟨h0,fun x hx=>(h3 x hx).2⟩⟩
section
variable {H:Type} {enc:TypeId×Value->H} {W:World}
theorem qM{N:Nat}(h:Rd enc Tryz.prog W N 45 (fun v:Val=>ab v.av) vz):Rd enc Tryz.prog W N 30 (fun l:List Val=>[vals l]) (fun l=>l.length<=140737488355328/\∀v∈l,vz v):=
 (mb h Tryz.underlying30 (by kernel_rfl:_=4) (by decide) (by kernel_rfl:_=64) (ev:=Val.av) (m6 fun v=>by rw[v.av_eq];rfl)).map id (fun l=>by simp[vals,ef]) (fun l h=>⟨by have:=h.1;rw[mc]at this;simp only[id];omega,h.2⟩)
theorem tM:∀N,Rd enc Tryz.prog W N 45 (fun v:Val=>ab v.av) vz
 |0=>.zero
 | N+1=>(jF Tryz.underlying45 (by kernel_rfl) (dE (sB Tryz.underlying3) rfl (by kernel_rfl:_=1) (dE (sB Tryz.underlying3) rfl (by kernel_rfl:_=1) (dE (za N) rfl (by kernel_rfl:_=1)
   (dE (qM (tM N)) rfl (by kernel_rfl:_=1) ma))))).map (fun x=>Val.mk x.1 x.2.1 x.2.2.1 x.2.2.2.1) (fun x=>by simp[Val.av_eq,ab]) (fun x h=>zh (bounds_i64 h.2.1) (by have:=h.2.2.1;omega) h.2.2.2.1.1 h.2.2.2.1.2)
end
end Go.Proofs.YtihmmkncokjbaaaGreatDoor
namespace Go.Proofs.YtihmmkncokjbaaaGreatDoor
open Go Go.Av Go.Av.Ap
set_option maxRecDepth 100000
noncomputable section
abbrev EE(k:Nat)(fn:Go.Func)(g:Ann)(l:List AV)(S:CC->cr AV->M AV):Prop:=∀call fx,bU (pg.cx call fn.ntmps g) fx fn (own k) l=S call fx
def L10_0(call:CC)(fx:cr AV)(a:RR)(b:List AV):M AV:=ae (ah (aY T 30 (nth b 0))) fun c=>ae (ah (ao T .lss 3 (nth b 1) c)) fun d=>ae (au d true 1 (ae (ah (ao T .lss 3 (nth b 1) (.int .i64 9))) fun e=>M.pure [e])) fun f=>ae (ah (aO d (nth f 0) (.bool false))) fun g=>aB g (ae (ah (ax T 30 (nth b 0) (nth b 1))) fun h=>ae (ah (ak T 45 h)) fun i=>ae (call 42 [i,.int .i64 40,.int .i64 6]) fun j=>ae (ah (ao T .gtr 3 j (.int .i64 40))) fun k=>aB k (M.pure (AV.bool false)) (ae (ah (ao T .add 3 (nth b 1) (.int .i64 1))) fun l=>a [nth b 0,l])) (ae (ah (aY T 30 (nth b 0))) fun m=>ae (ah (ao T .leq 3 m (.int .i64 8))) fun n=>M.pure n)
def XL10_0{call:CC}:cM (L10_0 call ai) fun _n=>L10_0 call ai  :=by
 intro a b c d;unfold L10_0;exact (lb fun _=>(lb fun _=>(lb fun _=>(lb fun _=>(aD (lb fun _=>(lb fun _=>(lb fun _=>(lb fun _=>(aD (aE.const _) (lb fun _=>c _)))))) (aE.const _))))))
def FL10_0(call:CC)(vs:List AV):ai (L10_0 call ai) vs=L10_0 call ai  (ai (L10_0 call ai)) vs:=bR (XL10_0) vs
def S10(call:CC)(fx:cr AV)(a0:AV):M AV:=fx (L10_0 call fx) [a0,.int .i64 0]
def E10(a0:AV):EE 10 Tryz.f10 zl [a0] (fun c x=>S10 c x a0):=fun _ _=>by kernel_rfl
def C10(a0:AV):af pg 10 [a0]=aS (S10 (af pg) ai (cl az a0)):=(aC aM rfl rfl rfl _).trans (FX aS (E10 (cl az a0) _ _))
def L14_0(call:CC)(fx:cr AV)(a:RR)(b:List AV):M AV:=ae (ah (aY T 30 (nth b 0))) fun c=>ae (ah (ao T .lss 3 (nth b 2) c)) fun d=>aB d (ae (ah (ax T 30 (nth b 0) (nth b 2))) fun e=>ae (ah (ak T 45 e)) fun f=>ae (ah (ax T 30 (nth b 1) (nth b 2))) fun g=>ae (ah (ak T 45 g)) fun h=>ae (cG (call 21 [f,h])) fun i=>ae (ah (iz UnOp.not i)) fun j=>aB j (M.pure (AV.bool false)) (ae (ah (ao T .add 3 (nth b 2) (.int .i64 1))) fun k=>a [nth b 0,nth b 1,k])) (M.pure (AV.bool true))
def XL14_0{call:CC}:cM (L14_0 call ai) fun _n=>L14_0 call ai  :=by
 intro a b c d;unfold L14_0;exact (lb fun _=>(lb fun _=>(aD (by(iterate 6 refine lb fun _=>?_);exact (aD (aE.const _) (lb fun _=>c _))) (aE.const _))))
def FL14_0(call:CC)(vs:List AV):ai (L14_0 call ai) vs=L14_0 call ai  (ai (L14_0 call ai)) vs:=bR (XL14_0) vs
def S14(call:CC)(fx:cr AV)(a0 a1:AV):M AV:=ae (ah (aY T 30 a0)) fun a=>ae (ah (aY T 30 a1)) fun b=>ae (ah (ao T .neq 3 a b)) fun c=>aB c (M.pure (AV.bool false)) (fx (L14_0 call fx) [a0,a1,.int .i64 0])
def E14(a0 a1:AV):EE 14 Tryz.f14 zm [a0,a1] (fun c x=>S14 c x a0 a1):=fun _ _=>by kernel_rfl
def C14(a0 a1:AV):af pg 14 [a0,a1]=aS (S14 (af pg) ai (cl az a0) (cl az a1)):=(aC aM rfl rfl rfl _).trans (FX aS (E14 (cl az a0) (cl az a1) _ _))
def L16_0(call:CC)(fx:cr AV)(a:RR)(b:List AV):M AV:=ae (ah (aY T 47 (nth b 0))) fun c=>ae (ah (ao T .lss 3 (nth b 1) c)) fun d=>aB d (ae (ah (ax T 47 (nth b 0) (nth b 1))) fun e=>ae (ah (ak T 35 e)) fun f=>ae (call 48 [f,.int .i64 40,.int .i64 6]) fun g=>ae (ah (ao T .gtr 3 g (.int .i64 40))) fun h=>aB h (M.pure (AV.bool false)) (ae (ah (ao T .add 3 (nth b 1) (.int .i64 1))) fun i=>a [nth b 0,i])) (M.pure (AV.bool true))
def XL16_0{call:CC}:cM (L16_0 call ai) fun _n=>L16_0 call ai  :=by
 intro a b c d;unfold L16_0;exact (lb fun _=>(lb fun _=>(aD (lb fun _=>(lb fun _=>(lb fun _=>(lb fun _=>(aD (aE.const _) (lb fun _=>c _)))))) (aE.const _))))
def FL16_0(call:CC)(vs:List AV):ai (L16_0 call ai) vs=L16_0 call ai  (ai (L16_0 call ai)) vs:=bR (XL16_0) vs
def S16(call:CC)(fx:cr AV)(a0:AV):M AV:=fx (L16_0 call fx) [a0,.int .i64 0]
def E16(a0:AV):EE 16 Tryz.f16 zn [a0] (fun c x=>S16 c x a0):=fun _ _=>by kernel_rfl
def C16(a0:AV):af pg 16 [a0]=aS (S16 (af pg) ai (cl az a0)):=(aC aM rfl rfl rfl _).trans (FX aS (E16 (cl az a0) _ _))
def S20(call:CC)(fx:cr AV)(a0 a1:AV):M AV:=ae (ah (ak T 35 (.ip (ab a0)))) fun a=>ae (call 23 [a]) fun b=>ae (au b true 1 (ae (ah (ak T 45 (.ip (ab a1)))) fun c=>ae (call 49 [c]) fun d=>M.pure [d])) fun e=>ae (ah (aO b (nth e 0) (.bool false))) fun f=>ae (au f true 1 (ae (ah (ak T 35 (.ip (ab a0)))) fun g=>ae (ah (ak T 45 (.ip (ab a1)))) fun h=>ae (call 55 [g,h]) fun i=>M.pure [i])) fun j=>ae (ah (aO f (nth j 0) (.bool false))) fun k=>M.pure k
def E20(a0 a1:AV):EE 20 Tryz.f20 zq [a0,a1] (fun c x=>S20 c x a0 a1):=fun _ _=>by kernel_rfl
def C20(a0 a1:AV):af pg 20 [a0,a1]=aS (S20 (af pg) ai (cl az a0) (cl az a1)):=(aC aM rfl rfl rfl _).trans (FX aS (E20 (cl az a0) (cl az a1) _ _))
def L21_0(call:CC)(fx:cr AV)(a:RR)(b:List AV):M AV:=ae (ah (aa T 45 (nth b 0) 2)) fun c=>ae (ah (ak T 22 c)) fun d=>ae (ah (aY T 22 d)) fun e=>ae (ah (ao T .lss 3 (nth b 2) e)) fun f=>aB f (ae (ah (aa T 45 (nth b 0) 2)) fun g=>ae (ah (ak T 22 g)) fun h=>ae (ah (ax T 22 h (nth b 2))) fun i=>ae (ah (ak T 9 i)) fun j=>ae (ah (aa T 45 (nth b 1) 2)) fun k=>ae (ah (ak T 22 k)) fun l=>ae (ah (ax T 22 l (nth b 2))) fun m=>ae (ah (ak T 9 m)) fun n=>ae (ah (ao T .neq 9 j n)) fun o=>aB o (M.pure (AV.bool false)) (ae (ah (ao T .add 3 (nth b 2) (.int .i64 1))) fun p=>a [nth b 0,nth b 1,p])) (ae (ah (aa T 45 (nth b 0) 3)) fun q=>ae (ah (ak T 30 q)) fun r=>ae (ah (aa T 45 (nth b 1) 3)) fun s=>ae (ah (ak T 30 s)) fun u=>ae (call 14 [r,u]) fun v=>M.pure v)
def XL21_0{call:CC}:cM (L21_0 call ai) fun _n=>L21_0 call ai  :=by
 intro a b c d;unfold L21_0;exact (lb fun _=>(lb fun _=>(lb fun _=>(lb fun _=>(aD (by(iterate 9 refine lb fun _=>?_);exact (aD (aE.const _) (lb fun _=>c _))) (aE.const _))))))
def FL21_0(call:CC)(vs:List AV):ai (L21_0 call ai) vs=L21_0 call ai  (ai (L21_0 call ai)) vs:=bR (XL21_0) vs
def S21(call:CC)(fx:cr AV)(a0 a1:AV):M AV:=ae (ah (aa T 45 (.ip (ab a0)) 0)) fun a=>ae (ah (ak T 3 a)) fun b=>ae (ah (aa T 45 (.ip (ab a1)) 0)) fun c=>ae (ah (ak T 3 c)) fun d=>ae (ah (ao T .neq 3 b d)) fun e=>ae (au e false 1 (ae (ah (aa T 45 (.ip (ab a0)) 1)) fun f=>ae (ah (ak T 3 f)) fun g=>ae (ah (aa T 45 (.ip (ab a1)) 1)) fun h=>ae (ah (ak T 3 h)) fun i=>ae (ah (ao T .neq 3 g i)) fun j=>M.pure [j])) fun k=>ae (ah (aO e (.bool true) (nth k 0))) fun l=>ae (au l false 1 (ae (ah (aa T 45 (.ip (ab a0)) 2)) fun m=>ae (ah (ak T 22 m)) fun n=>ae (ah (aY T 22 n)) fun o=>ae (ah (aa T 45 (.ip (ab a1)) 2)) fun p=>ae (ah (ak T 22 p)) fun q=>ae (ah (aY T 22 q)) fun r=>ae (ah (ao T .neq 3 o r)) fun s=>M.pure [s])) fun u=>ae (ah (aO l (.bool true) (nth u 0))) fun v=>ae (au v false 1 (ae (ah (aa T 45 (.ip (ab a0)) 3)) fun w=>ae (ah (ak T 30 w)) fun x=>ae (ah (aY T 30 x)) fun y=>ae (ah (aa T 45 (.ip (ab a1)) 3)) fun z=>ae (ah (ak T 30 z)) fun A=>ae (ah (aY T 30 A)) fun B=>ae (ah (ao T .neq 3 y B)) fun C=>M.pure [C])) fun D=>ae (ah (aO v (.bool true) (nth D 0))) fun E=>aB E (M.pure (AV.bool false)) (fx (L21_0 call fx) [.ip (ab a0),.ip (ab a1),.int .i64 0])
def E21(a0 a1:AV):EE 21 Tryz.f21 zr [a0,a1] (fun c x=>S21 c x a0 a1):=fun _ _=>by kernel_rfl
def C21(a0 a1:AV):af pg 21 [a0,a1]=aS (S21 (af pg) ai (cl az a0) (cl az a1)):=(aC aM rfl rfl rfl _).trans (FX aS (E21 (cl az a0) (cl az a1) _ _))
def L22_0(call:CC)(fx:cr AV)(a:RR)(b:List AV):M AV:=ae (ah (ao T .lss 3 (nth b 2) (nth b 1))) fun c=>aB c (ae (ah (ax T 23 (nth b 0) (nth b 2))) fun d=>ae (ah (ak T 37 d)) fun e=>ae (bT 3 e) fun f=>ae (ah (aa T 37 (.ip (ab f)) 0)) fun g=>ae (ah (ak T 9 g)) fun h=>ae (ah (bp T 22 1 [(0,h)])) fun i=>ae (ah (cZ T 22 (nth b 9) i)) fun j=>ae (ah (aa T 37 (.ip (ab f)) 1)) fun k=>ae (ah (ak T 35 k)) fun l=>ae (cG (call 22 [l])) fun m=>ae (ah (bp T 30 1 [(0,m)])) fun n=>ae (ah (cZ T 30 (nth b 10) n)) fun o=>ae (dJ j) fun p=>ae (dJ o) fun q=>ae (ah (ao T .add 3 (nth b 2) (.int .i64 1))) fun r=>a [nth b 0,nth b 1,r,nth b 3,nth b 4,nth b 5,nth b 6,nth b 7,nth b 8,j,o]) (ae (aU 4 [] (.agg [nth b 7,nth b 8,nth b 9,nth b 10])) fun s=>M.pure (AV.agg [nth (ab s) 0,nth (ab s) 1,nth (ab s) 2,nth (ab s) 3]))
def XL22_0{call:CC}:cM (L22_0 call ai) fun _n=>L22_0 call ai  :=by
 intro a b c d;unfold L22_0;exact (lb fun _=>(aD (by(iterate 15 refine lb fun _=>?_);exact (c _)) (aE.const _)))
def FL22_0(call:CC)(vs:List AV):ai (L22_0 call ai) vs=L22_0 call ai  (ai (L22_0 call ai)) vs:=bR (XL22_0) vs
def S22(call:CC)(fx:cr AV)(a0:AV):M AV:=ae (ah (ak T 35 (.ip (ab a0)))) fun a=>ae (call 23 [a]) fun b=>ae (ah (iz UnOp.not b)) fun c=>aB c (ae (ah (bW T false 45 [])) fun d=>ae (aU 4 [] d) fun e=>M.pure (AV.agg [nth (ab e) 0,nth (ab e) 1,nth (ab e) 2,nth (ab e) 3])) (ae (ah (aa T 35 (.ip (ab a0)) 0)) fun f=>ae (ah (ak T 3 f)) fun g=>ae (ah (bW T true 45 [(0,g)])) fun h=>ae (aU 4 [2,3] h) fun i=>ae (ah (aa T 35 (.ip (ab a0)) 1)) fun j=>ae (ah (ak T 23 j)) fun k=>ae (ah (aY T 23 k)) fun l=>fx (L22_0 call fx) [k,l,.int .i64 0,.int .i64 0,.int .i64 0,.sl [],.sl [],nth (ab i) 0,nth (ab i) 1,.sl [],.sl []])
def E22(a0:AV):EE 22 Tryz.f22 zt [a0] (fun c x=>S22 c x a0):=fun _ _=>by kernel_rfl
def C22(a0:AV):af pg 22 [a0]=aS (S22 (af pg) ai (cl az a0)):=(aC aM rfl rfl rfl _).trans (FX aS (E22 (cl az a0) _ _))
def K93_0(call:CC)(fx:cr AV)(a:List AV):M AV:=ae (ah (bW T false 45 [(1,nth a 0)])) fun b=>ae (aU 4 [] b) fun c=>M.pure (AV.agg [nth (ab c) 0,nth (ab c) 1,nth (ab c) 2,nth (ab c) 3])
def S93(call:CC)(fx:cr AV)(a0:AV):M AV:=ae (ah (ao T .eql 9 a0 (.str [116,114,117,101]))) fun a=>aB a (ae (ah (bW T false 45 [(0,.int .i64 1),(1,.int .i64 1)])) fun b=>ae (aU 4 [] b) fun c=>M.pure (AV.agg [nth (ab c) 0,nth (ab c) 1,nth (ab c) 2,nth (ab c) 3])) (ae (ah (ao T .eql 9 a0 (.str [102,97,108,115,101]))) fun d=>aB d (ae (ah (bW T false 45 [(0,.int .i64 1)])) fun e=>ae (aU 4 [] e) fun f=>M.pure (AV.agg [nth (ab f) 0,nth (ab f) 1,nth (ab f) 2,nth (ab f) 3])) (ae (call 141 [a0]) fun g=>ae (ah (cg g 0)) fun h=>ae (ah (cg g 1)) fun i=>jn (K93_0 call fx) fun j=>ae (ah (ao T .neq 124 i AV.nili)) fun k=>ae (au k false 1 (ae (call 50 [h]) fun l=>ae (ah (ao T .neq 9 l a0)) fun m=>M.pure [m])) fun n=>ae (ah (aO k (.bool true) (nth n 0))) fun o=>aB o (ae (ah (bW T false 81 [])) fun p=>ae (ah (dK T 81 p)) fun q=>ae (sr q) fun r=>j [h,.int .i64 0,.int .i64 0,.sl [],.sl []]) (j [h,.int .i64 0,.int .i64 0,.sl [],.sl []])))
def E93(a0:AV):EE 93 Tryz.f93 zH [a0] (fun c x=>S93 c x a0):=fun _ _=>by kernel_rfl
def C93(a0:AV):af pg 93 [a0]=aS (S93 (af pg) ai (cl az a0)):=(aC aM rfl rfl rfl _).trans (FX aS (E93 (cl az a0) _ _))
def S96(call:CC)(fx:cr AV)(a0 a1:AV):M AV:=ae (call 81 [a0,a1]) fun a=>ae (ah (ao T .geq 3 a (.int .i64 0))) fun b=>M.pure b
def E96(a0 a1:AV):EE 96 Tryz.f96 zJ [a0,a1] (fun c x=>S96 c x a0 a1):=fun _ _=>by kernel_rfl
def C96(a0 a1:AV):af pg 96 [a0,a1]=aS (S96 (af pg) ai (cl az a0) (cl az a1)):=(aC aM rfl rfl rfl _).trans (FX aS (E96 (cl az a0) (cl az a1) _ _))
def L99_0(call:CC)(fx:cr AV)(a:RR)(b:List AV):M AV:=ae (ah (ao T .lss 3 (nth b 4) (nth b 3))) fun c=>aB c (ae (ah (ax T 23 (nth b 2) (nth b 4))) fun d=>ae (ah (ak T 37 d)) fun e=>ae (bT 3 e) fun f=>ae (ah (aa T 37 (.ip (ab f)) 0)) fun g=>ae (ah (ak T 9 g)) fun h=>ae (cG (call 119 [h])) fun i=>ae (ah (iz UnOp.not i)) fun j=>ae (au j false 1 (ae (ah (ao T .gtr 3 (nth b 4) (.int .i64 0))) fun k=>M.pure [k])) fun l=>ae (au (nth l 0) true 1 (ae (ah (aa T 37 (.ip (ab f)) 0)) fun m=>ae (ah (ak T 9 m)) fun n=>ae (ah (aa T 35 (nth b 1) 1)) fun o=>ae (ah (ak T 23 o)) fun p=>ae (ah (ao T .sub 3 (nth b 4) (.int .i64 1))) fun q=>ae (ah (ax T 23 p q)) fun r=>ae (ah (aa T 37 r 0)) fun s=>ae (ah (ak T 9 s)) fun u=>ae (ah (ao T .leq 9 n u)) fun v=>M.pure [v])) fun w=>ae (au j false 1 (ae (ah (aO (nth l 0) (nth w 0) (.bool false))) fun x=>M.pure [x])) fun y=>ae (ah (aO j (.bool true) (nth y 0))) fun z=>ae (au z false 1 (ae (ah (aa T 37 (.ip (ab f)) 1)) fun A=>ae (ah (ak T 35 A)) fun B=>ae (ah (ao T .sub 3 (nth b 0) (.int .i64 1))) fun C=>ae (cG (call 99 [B,C])) fun D=>ae (ah (iz UnOp.not D)) fun E=>M.pure [E])) fun F=>ae (ah (aO z (.bool true) (nth F 0))) fun G=>aB G (M.pure (AV.bool false)) (ae (ah (ao T .add 3 (nth b 4) (.int .i64 1))) fun H=>a [nth b 0,nth b 1,nth b 2,nth b 3,H])) (M.pure (AV.bool true))
def XL99_0{call:CC}:cM (L99_0 call ai) fun _n=>L99_0 call ai  :=by
 intro a b c d;unfold L99_0;exact (lb fun _=>(aD (by(iterate 13 refine lb fun _=>?_);exact (aD (aE.const _) (lb fun _=>c _))) (aE.const _)))
def FL99_0(call:CC)(vs:List AV):ai (L99_0 call ai) vs=L99_0 call ai  (ai (L99_0 call ai)) vs:=bR (XL99_0) vs
def S99(call:CC)(fx:cr AV)(a0 a1:AV):M AV:=ae (ah (ao T .eql 3 a1 (.int .i64 0))) fun a=>ae (au a false 1 (ae (ah (aa T 35 (.ip (ab a0)) 0)) fun b=>ae (ah (ak T 3 b)) fun c=>ae (ah (ao T .lss 3 c (.int .i64 0))) fun d=>M.pure [d])) fun e=>ae (ah (aO a (.bool true) (nth e 0))) fun f=>ae (au f false 1 (ae (ah (aa T 35 (.ip (ab a0)) 0)) fun g=>ae (ah (ak T 3 g)) fun h=>ae (ah (ao T .geq 3 h (.int .i64 3))) fun i=>M.pure [i])) fun j=>ae (ah (aO f (.bool true) (nth j 0))) fun k=>ae (au k false 1 (ae (ah (aa T 35 (.ip (ab a0)) 1)) fun l=>ae (ah (ak T 23 l)) fun m=>ae (ah (aY T 23 m)) fun n=>ae (ah (ao T .gtr 3 n (.int .i64 8))) fun o=>M.pure [o])) fun p=>ae (ah (aO k (.bool true) (nth p 0))) fun q=>ae (au q false 1 (ae (ah (aa T 35 (.ip (ab a0)) 0)) fun r=>ae (ah (ak T 3 r)) fun s=>ae (ah (ao T .neq 3 s (.int .i64 2))) fun u=>M.pure [u])) fun v=>ae (au (nth v 0) true 1 (ae (ah (aa T 35 (.ip (ab a0)) 1)) fun w=>ae (ah (ak T 23 w)) fun x=>ae (ah (aY T 23 x)) fun y=>ae (ah (ao T .gtr 3 y (.int .i64 0))) fun z=>M.pure [z])) fun A=>ae (au q false 1 (ae (ah (aO (nth v 0) (nth A 0) (.bool false))) fun B=>M.pure [B])) fun C=>ae (ah (aO q (.bool true) (nth C 0))) fun D=>aB D (M.pure (AV.bool false)) (ae (ah (aa T 35 (.ip (ab a0)) 1)) fun E=>ae (ah (ak T 23 E)) fun F=>ae (ah (aY T 23 F)) fun G=>fx (L99_0 call fx) [a1,.ip (ab a0),F,G,.int .i64 0])
def E99(a0 a1:AV):EE 99 Tryz.f99 zM [a0,a1] (fun c x=>S99 c x a0 a1):=fun _ _=>by kernel_rfl
def C99(a0 a1:AV):af pg 99 [a0,a1]=aS (S99 (af pg) ai (cl az a0) (cl az a1)):=(aC aM rfl rfl rfl _).trans (FX aS (E99 (cl az a0) (cl az a1) _ _))
def S158(call:CC)(fx:cr AV)(a0:AV):M AV:=ae (ah (ao T .eql 9 a0 (.str []))) fun a=>ae (au a false 1 (ae (ah (da T 9 a0 (.int .i64 0))) fun b=>ae (call 205 [b]) fun c=>ae (ah (iz UnOp.not c)) fun d=>M.pure [d])) fun e=>ae (ah (aO a (.bool true) (nth e 0))) fun f=>ae (au f false 1 (ae (ah (aY T 9 a0)) fun g=>ae (ah (ao T .gtr 3 g (.int .i64 20))) fun h=>M.pure [h])) fun i=>ae (ah (aO f (.bool true) (nth i 0))) fun j=>aB j (M.pure (AV.bool false)) (ae (call 206 [a0,.fn (Fn.func 207) [] []]) fun k=>ae (ah (aY T 9 a0)) fun l=>ae (ah (ao T .eql 3 k l)) fun m=>M.pure m)
def E158(a0:AV):EE 158 Tryz.f158 vH [a0] (fun c x=>S158 c x a0):=fun _ _=>by kernel_rfl
def C158(a0:AV):af pg 158 [a0]=aS (S158 (af pg) ai (cl az a0)):=(aC aM rfl rfl rfl _).trans (FX aS (E158 (cl az a0) _ _))
def S168(call:CC)(fx:cr AV)(a0:AV):M AV:=ae (ah (bW T false 45 [(0,.int .i64 0),(1,a0)])) fun a=>ae (aU 4 [] a) fun b=>M.pure (AV.agg [nth (ab b) 0,nth (ab b) 1,nth (ab b) 2,nth (ab b) 3])
def E168(a0:AV):EE 168 Tryz.f168 vK [a0] (fun c x=>S168 c x a0):=fun _ _=>by kernel_rfl
def C168(a0:AV):af pg 168 [a0]=aS (S168 (af pg) ai (cl az a0)):=(aC aM rfl rfl rfl _).trans (FX aS (E168 (cl az a0) _ _))
def S205(call:CC)(fx:cr AV)(a0:AV):M AV:=ae (ah (ao T .geq 5 a0 (.int .u8 97))) fun a=>ae (au a true 1 (ae (ah (ao T .leq 5 a0 (.int .u8 122))) fun b=>M.pure [b])) fun c=>ae (ah (aO a (nth c 0) (.bool false))) fun d=>M.pure d
def E205(a0:AV):EE 205 Tryz.f205 vM [a0] (fun c x=>S205 c x a0):=fun _ _=>by kernel_rfl
def C205(a0:AV):af pg 205 [a0]=aS (S205 (af pg) ai (cl az a0)):=(aC aM rfl rfl rfl _).trans (FX aS (E205 (cl az a0) _ _))
def S208(call:CC)(fx:cr AV)(a0:AV):M AV:=ae (ah (ao T .geq 5 a0 (.int .u8 48))) fun a=>ae (au a true 1 (ae (ah (ao T .leq 5 a0 (.int .u8 57))) fun b=>M.pure [b])) fun c=>ae (ah (aO a (nth c 0) (.bool false))) fun d=>M.pure d
def E208(a0:AV):EE 208 Tryz.f208 vQ [a0] (fun c x=>S208 c x a0):=fun _ _=>by kernel_rfl
def C208(a0:AV):af pg 208 [a0]=aS (S208 (af pg) ai (cl az a0)):=(aC aM rfl rfl rfl _).trans (FX aS (E208 (cl az a0) _ _))
def L17_0(call:CC)(fx:cr AV)(a:RR)(b:List AV):M AV:=ae (ah (ao T .lss 3 (nth b 4) (nth b 3))) fun c=>aB c (ae (ah (ax T 22 (nth b 2) (nth b 4))) fun d=>ae (ah (ak T 9 d)) fun e=>ae (ah (ao T .add 9 e (.str [61]))) fun f=>ae (ah (aa T 45 (nth b 0) 3)) fun g=>ae (ah (ak T 30 g)) fun h=>ae (ah (ax T 30 h (nth b 4))) fun i=>ae (ah (ak T 45 i)) fun j=>ae (call 17 [j]) fun k=>ae (ah (ao T .add 9 f k)) fun l=>ae (ah (bp T 22 1 [(0,l)])) fun m=>ae (ah (cZ T 22 (nth b 1) m)) fun n=>ae (ah (ao T .add 3 (nth b 4) (.int .i64 1))) fun o=>a [nth b 0,n,nth b 2,nth b 3,o]) (ae (call 52 [nth b 1,.str [44]]) fun p=>ae (ah (ao T .add 9 (.str [123]) p)) fun q=>ae (ah (ao T .add 9 q (.str [125]))) fun r=>M.pure r)
def XL17_0{call:CC}:cM (L17_0 call ai) fun _n=>L17_0 call ai  :=by
 intro a b c d;unfold L17_0;exact (lb fun _=>(aD (by(iterate 12 refine lb fun _=>?_);exact (c _)) (aE.const _)))
def FL17_0(call:CC)(vs:List AV):ai (L17_0 call ai) vs=L17_0 call ai  (ai (L17_0 call ai)) vs:=bR (XL17_0) vs
def S17(call:CC)(fx:cr AV)(a0:AV):M AV:=ae (ah (ak T 45 (.ip (ab a0)))) fun a=>ae (call 49 [a]) fun b=>ae (ah (iz UnOp.not b)) fun c=>aB c (M.pure (AV.str [])) (ae (ah (aa T 45 (.ip (ab a0)) 0)) fun d=>ae (ah (ak T 3 d)) fun e=>ae (ah (ao T .eql 3 e (.int .i64 0))) fun f=>aB f (ae (ah (aa T 45 (.ip (ab a0)) 1)) fun g=>ae (ah (ak T 3 g)) fun h=>ae (call 50 [h]) fun i=>M.pure i) (ae (ah (ao T .eql 3 e (.int .i64 1))) fun j=>aB j (ae (ah (aa T 45 (.ip (ab a0)) 1)) fun k=>ae (ah (ak T 3 k)) fun l=>ae (ah (ao T .eql 3 l (.int .i64 1))) fun m=>ae (call 51 [m]) fun n=>M.pure n) (ae (ah (aa T 45 (.ip (ab a0)) 2)) fun o=>ae (ah (ak T 22 o)) fun p=>ae (ah (aY T 22 p)) fun q=>fx (L17_0 call fx) [.ip (ab a0),.sl [],p,q,.int .i64 0])))
def E17(a0:AV):EE 17 Tryz.f17 zo [a0] (fun c x=>S17 c x a0):=fun _ _=>by kernel_rfl
def C17(a0:AV):af pg 17 [a0]=aS (S17 (af pg) ai (cl az a0)):=(aC aM rfl rfl rfl _).trans (FX aS (E17 (cl az a0) _ _))
def S23(call:CC)(fx:cr AV)(a0:AV):M AV:=ae (ah (ak T 35 (.ip (ab a0)))) fun a=>ae (call 56 [a]) fun b=>M.pure b
def E23(a0:AV):EE 23 Tryz.f23 zu [a0] (fun c x=>S23 c x a0):=fun _ _=>by kernel_rfl
def C23(a0:AV):af pg 23 [a0]=aS (S23 (af pg) ai (cl az a0)):=(aC aM rfl rfl rfl _).trans (FX aS (E23 (cl az a0) _ _))
def S86(call:CC)(fx:cr AV)(a0 a1:AV):M AV:=ae (ah (ak T 3 (.ip (ab a1)))) fun a=>ae (ah (ao T .eql 3 a (.int .i64 0))) fun b=>aB b (M.pure (AV.bool false)) (ae (ah (aa T 45 (.ip (ab a0)) 0)) fun c=>ae (ah (ak T 3 c)) fun d=>ae (ah (ao T .eql 3 d (.int .i64 0))) fun e=>ae (au e false 1 (ae (ah (aa T 45 (.ip (ab a0)) 0)) fun f=>ae (ah (ak T 3 f)) fun g=>ae (ah (ao T .eql 3 g (.int .i64 1))) fun h=>M.pure [h])) fun i=>ae (ah (aO e (.bool true) (nth i 0))) fun j=>aB j (ae (ah (aa T 45 (.ip (ab a0)) 2)) fun k=>ae (ah (ak T 22 k)) fun l=>ae (ah (aY T 22 l)) fun m=>ae (ah (ao T .eql 3 m (.int .i64 0))) fun n=>ae (au n true 1 (ae (ah (aa T 45 (.ip (ab a0)) 3)) fun o=>ae (ah (ak T 30 o)) fun p=>ae (ah (aY T 30 p)) fun q=>ae (ah (ao T .eql 3 q (.int .i64 0))) fun r=>M.pure [r])) fun s=>ae (ah (aO n (nth s 0) (.bool false))) fun u=>ae (au u true 1 (ae (ah (aa T 45 (.ip (ab a0)) 0)) fun v=>ae (ah (ak T 3 v)) fun w=>ae (ah (ao T .eql 3 w (.int .i64 0))) fun x=>M.pure [x])) fun y=>ae (au (nth y 0) false 1 (ae (ah (aa T 45 (.ip (ab a0)) 1)) fun z=>ae (ah (ak T 3 z)) fun A=>ae (ah (ao T .eql 3 A (.int .i64 0))) fun B=>M.pure [B])) fun C=>ae (au u true 1 (ae (ah (aO (nth y 0) (.bool true) (nth C 0))) fun D=>M.pure [D])) fun E=>ae (au (nth E 0) false 1 (ae (ah (aa T 45 (.ip (ab a0)) 1)) fun F=>ae (ah (ak T 3 F)) fun G=>ae (ah (ao T .eql 3 G (.int .i64 1))) fun H=>M.pure [H])) fun I=>ae (au u true 1 (ae (ah (aO (nth E 0) (.bool true) (nth I 0))) fun J=>M.pure [J])) fun K=>ae (ah (aO u (nth K 0) (.bool false))) fun L=>M.pure L) (ae (ah (aa T 45 (.ip (ab a0)) 0)) fun N=>ae (ah (ak T 3 N)) fun O=>ae (ah (ao T .neq 3 O (.int .i64 2))) fun P=>ae (au P false 1 (ae (ah (aa T 45 (.ip (ab a0)) 1)) fun Q=>ae (ah (ak T 3 Q)) fun R=>ae (ah (ao T .neq 3 R (.int .i64 0))) fun S=>M.pure [S])) fun U=>ae (ah (aO P (.bool true) (nth U 0))) fun V=>ae (au V false 1 (ae (ah (aa T 45 (.ip (ab a0)) 2)) fun W=>ae (ah (ak T 22 W)) fun X=>ae (ah (aY T 22 X)) fun Y=>ae (ah (aa T 45 (.ip (ab a0)) 3)) fun Z=>ae (ah (ak T 30 Z)) fun u0=>ae (ah (aY T 30 u0)) fun u1=>ae (ah (ao T .neq 3 Y u1)) fun u2=>M.pure [u2])) fun u3=>ae (ah (aO V (.bool true) (nth u3 0))) fun u4=>ae (au u4 false 1 (ae (ah (aa T 45 (.ip (ab a0)) 2)) fun u5=>ae (ah (ak T 22 u5)) fun u6=>ae (ah (aY T 22 u6)) fun u7=>ae (ah (ao T .gtr 3 u7 (.int .i64 8))) fun u8=>M.pure [u8])) fun u9=>ae (ah (aO u4 (.bool true) (nth u9 0))) fun w0=>ae (au w0 false 1 (ae (ah (aa T 45 (.ip (ab a0)) 2)) fun w1=>ae (ah (ak T 22 w1)) fun w2=>ae (call 135 [w2]) fun w3=>ae (ah (iz UnOp.not w3)) fun w4=>M.pure [w4])) fun w5=>ae (ah (aO w0 (.bool true) (nth w5 0))) fun w6=>aB w6 (M.pure (AV.bool false)) (ae (ah (aa T 45 (.ip (ab a0)) 3)) fun w7=>ae (ah (ak T 30 w7)) fun w8=>ae (call 130 [w8,.fn (Fn.func 136) [] [.ip (ab a1)]]) fun w9=>ae (ah (iz UnOp.not w9)) fun x0=>M.pure x0)))
def E86(a0 a1:AV):EE 86 Tryz.f86 zE [a0,a1] (fun c x=>S86 c x a0 a1):=fun _ _=>by kernel_rfl
def C86(a0 a1:AV):af pg 86 [a0,a1]=aS (S86 (af pg) ai (cl az a0) (cl az a1)):=(aC aM rfl rfl rfl _).trans (FX aS (E86 (cl az a0) (cl az a1) _ _))
def S92(call:CC)(fx:cr AV)(a0 a1:AV):M AV:=ae (ah (db a0)) fun a=>ae (ah (aa T 85 a 0)) fun b=>ae (eK T 9 b) fun c=>ae (call 140 [c,a1]) fun d=>ae (ah (cg d 0)) fun e=>ae (ah (cg d 1)) fun f=>ae (ah (db a0)) fun g=>ae (ah (aa T 85 g 0)) fun h=>ae (fo T 9 h e) fun i=>M.pure f
def E92(a0 a1:AV):EE 92 Tryz.f92 zG [a0,a1] (fun c x=>S92 c x a0 a1):=fun _ _=>by kernel_rfl
def C92(a0 a1:AV):af pg 92 [a0,a1]=S92 (af pg) ai a0 a1:=(ic aM rfl rfl rfl _).trans (E92 a0 a1 _ _)
def S97(call:CC)(fx:cr AV)(a0 a1:AV):M AV:=ae (ah (aa T 45 a1 2)) fun a=>ae (ah (ak T 22 a)) fun b=>ae (ah (aa T 37 (.ip (ab a0)) 0)) fun c=>ae (ah (ak T 9 c)) fun d=>ae (call 98 [b,d]) fun e=>ae (ah (ao T .lss 3 e (.int .i64 0))) fun f=>ae (au f false 1 (ae (ah (aa T 37 (.ip (ab a0)) 1)) fun g=>ae (ah (ak T 35 g)) fun h=>ae (ah (aa T 45 a1 3)) fun i=>ae (ah (ak T 30 i)) fun j=>ae (ah (ax T 30 j e)) fun k=>ae (ah (ak T 45 k)) fun l=>ae (cG (call 55 [h,l])) fun m=>ae (ah (iz UnOp.not m)) fun n=>M.pure [n])) fun o=>ae (ah (aO f (.bool true) (nth o 0))) fun p=>M.pure p
def E97(a0 a1:AV):EE 97 Tryz.f97 zK [a0,a1] (fun c x=>S97 c x a0 a1):=fun _ _=>by kernel_rfl
def C97(a0 a1:AV):af pg 97 [a0,a1]=aS (S97 (af pg) ai (cl az a0) (cl az a1)):=(aC aM rfl rfl rfl _).trans (FX aS (E97 (cl az a0) (cl az a1) _ _))
def L98_0(call:CC)(fx:cr AV)(a:RR)(b:List AV):M AV:=ae (ah (ao T .lss 3 (nth b 3) (nth b 2))) fun c=>aB c (ae (ah (ax T 22 (nth b 0) (nth b 3))) fun d=>ae (ah (ak T 9 d)) fun e=>ae (ah (ao T .eql 9 (nth b 1) e)) fun f=>aB f (M.pure (nth b 3)) (ae (ah (ao T .add 3 (nth b 3) (.int .i64 1))) fun g=>a [nth b 0,nth b 1,nth b 2,g])) (M.pure (AV.int .i64 (-1)))
def XL98_0{call:CC}:cM (L98_0 call ai) fun _n=>L98_0 call ai  :=by
 intro a b c d;unfold L98_0;exact (lb fun _=>(aD (lb fun _=>(lb fun _=>(lb fun _=>(aD (aE.const _) (lb fun _=>c _))))) (aE.const _)))
def FL98_0(call:CC)(vs:List AV):ai (L98_0 call ai) vs=L98_0 call ai  (ai (L98_0 call ai)) vs:=bR (XL98_0) vs
def S98(call:CC)(fx:cr AV)(a0 a1:AV):M AV:=ae (ah (aY T 22 a0)) fun a=>fx (L98_0 call fx) [a0,a1,a,.int .i64 0]
def E98(a0 a1:AV):EE 98 Tryz.f98 zL [a0,a1] (fun c x=>S98 c x a0 a1):=fun _ _=>by kernel_rfl
def C98(a0 a1:AV):af pg 98 [a0,a1]=aS (S98 (af pg) ai (cl az a0) (cl az a1)):=(aC aM rfl rfl rfl _).trans (FX aS (E98 (cl az a0) (cl az a1) _ _))
def S130(call:CC)(fx:cr AV)(a0 a1:AV):M AV:=ae (call 164 [a0,a1]) fun a=>ae (ah (ao T .geq 3 a (.int .i64 0))) fun b=>M.pure b
def E130(a0 a1:AV):EE 130 Tryz.f130 vD [a0,a1] (fun c x=>S130 c x a0 a1):=fun _ _=>by kernel_rfl
def C130(a0 a1:AV):af pg 130 [a0,a1]=aS (S130 (af pg) ai (cl az a0) (cl az a1)):=(aC aM rfl rfl rfl _).trans (FX aS (E130 (cl az a0) (cl az a1) _ _))
def L135_0(call:CC)(fx:cr AV)(a:RR)(b:List AV):M AV:=ae (ah (aY T 22 (nth b 0))) fun c=>ae (ah (ao T .lss 3 (nth b 1) c)) fun d=>aB d (ae (ah (ao T .sub 3 (nth b 1) (.int .i64 1))) fun e=>ae (ah (ax T 22 (nth b 0) e)) fun f=>ae (ah (ak T 9 f)) fun g=>ae (ah (ax T 22 (nth b 0) (nth b 1))) fun h=>ae (ah (ak T 9 h)) fun i=>ae (ah (ao T .geq 9 g i)) fun j=>aB j (M.pure (AV.bool false)) (ae (ah (ao T .add 3 (nth b 1) (.int .i64 1))) fun k=>a [nth b 0,k])) (M.pure (AV.bool true))
def XL135_0{call:CC}:cM (L135_0 call ai) fun _n=>L135_0 call ai  :=by
 intro a b c d;unfold L135_0;exact (lb fun _=>(lb fun _=>(aD (by(iterate 6 refine lb fun _=>?_);exact (aD (aE.const _) (lb fun _=>c _))) (aE.const _))))
def FL135_0(call:CC)(vs:List AV):ai (L135_0 call ai) vs=L135_0 call ai  (ai (L135_0 call ai)) vs:=bR (XL135_0) vs
def S135(call:CC)(fx:cr AV)(a0:AV):M AV:=fx (L135_0 call fx) [a0,.int .i64 1]
def E135(a0:AV):EE 135 Tryz.f135 vE [a0] (fun c x=>S135 c x a0):=fun _ _=>by kernel_rfl
def C135(a0:AV):af pg 135 [a0]=aS (S135 (af pg) ai (cl az a0)):=(aC aM rfl rfl rfl _).trans (FX aS (E135 (cl az a0) _ _))
def S140(call:CC)(fx:cr AV)(a0 a1:AV):M AV:=ae (call 182 [a0,a1]) fun a=>ae (ah (cg a 0)) fun b=>ae (ah (cg a 1)) fun c=>M.pure (AV.tup [b,c])
def E140(a0 a1:AV):EE 140 Tryz.f140 vG [a0,a1] (fun c x=>S140 c x a0 a1):=fun _ _=>by kernel_rfl
def C140(a0 a1:AV):af pg 140 [a0,a1]=aS (S140 (af pg) ai (cl az a0) (cl az a1)):=(aC aM rfl rfl rfl _).trans (FX aS (E140 (cl az a0) (cl az a1) _ _))
def L206_0(call:CC)(fx:cr AV)(a:RR)(b:List AV):M AV:=ae (ah (aY T 9 (nth b 0))) fun c=>ae (ah (ao T .lss 3 (nth b 2) c)) fun d=>ae (au d true 1 (ae (ah (da T 9 (nth b 0) (nth b 2))) fun e=>ae (b7 call (nth b 1) [e]) fun f=>M.pure [f])) fun g=>ae (ah (aO d (nth g 0) (.bool false))) fun h=>aB h (ae (ah (ao T .add 3 (nth b 2) (.int .i64 1))) fun i=>a [nth b 0,nth b 1,i]) (M.pure (nth b 2))
def XL206_0{call:CC}:cM (L206_0 call ai) fun _n=>L206_0 call ai  :=by
 intro a b c d;unfold L206_0;exact (lb fun _=>(lb fun _=>(lb fun _=>(lb fun _=>(aD (lb fun _=>c _) (aE.const _))))))
def FL206_0(call:CC)(vs:List AV):ai (L206_0 call ai) vs=L206_0 call ai  (ai (L206_0 call ai)) vs:=bR (XL206_0) vs
def S206(call:CC)(fx:cr AV)(a0 a1:AV):M AV:=fx (L206_0 call fx) [a0,a1,.int .i64 0]
def E206(a0 a1:AV):EE 206 Tryz.f206 vO [a0,a1] (fun c x=>S206 c x a0 a1):=fun _ _=>by kernel_rfl
def C206(a0 a1:AV):af pg 206 [a0,a1]=aS (S206 (af pg) ai (cl az a0) (cl az a1)):=(aC aM rfl rfl rfl _).trans (FX aS (E206 (cl az a0) (cl az a1) _ _))
end
end Go.Proofs.YtihmmkncokjbaaaGreatDoor
