/- What the functions of the seat compute, part 2: the texts of the claim, one behind the other. Conditions: bounds, as each theorem names them. -/
import Derived.Test.YtihmmkncokjbaaaGreatDoorTa
import Derived.Laws.Rows
import Derived.WalkSmall
import Derived.Test.YtihmmkncokjbaaaGreatDoorRows
import Derived.Lib.LaidTab
import Derived.Stop.LaidErr
import Derived.Shelf.Vars
import Derived.ProofKit
import Derived.Deep.DeepHandedRow
import Derived.Deep.DeepWitnessRowRef
import Derived.Deep.DeepLaidRun
set_option linter.defProp false
set_option linter.unusedSimpArgs false
set_option linter.unusedVariables false
namespace Go.Proofs.YtihmmkncokjbaaaGreatDoor
open Go Go.Av
set_option maxRecDepth 100000
def C1(w:World)(k f:Value):World:=((w.alloc (Obj.cells #[k,f] 35)).alloc (Obj.cells #[Value.int IntKind.i64 0,Value.int IntKind.i64 0,Value.slice none 0 0,Value.slice none 0 0] 45)).alloc (Obj.cells #[Value.int IntKind.i64 0] 39)
def uf(w:World)(k f:Value)(x:ByteArray):World:=(C1 w k f).alloc (Obj.cells #[.string x] 85)
def ir(b:Nat)(w:World)(u0 u1 u2 u3:Value):World:=(((w.setCell ⟨b,0,none⟩ u0).setCell ⟨b,1,none⟩ u1).setCell ⟨b,2,none⟩ u2).setCell ⟨b,3,none⟩ u3
def cm(b:Nat)(w:World):World:=(ir b (s7 w) (.int .i64 0) (.int .i64 0) (.slice none 0 0) (.slice none 0 0)).setCell ⟨b+1,0,none⟩ (.int .i64 34)
def jo:Value:=.tuple #[.agg #[.int .i64 0,.int .i64 0,.slice none 0 0,.slice none 0 0],.int .i64 34]
abbrev Fy:Ending:=.panicked [{ v:=.iface 81 (.agg #[]),recovered:=false }]
structure RdRw (n:Nat) (w:World) (k f u0 u1 u2 u3:Value):Prop where
 r0:w.heap[n]? = some (.cells #[k,f] 35 (0,0))
 r1:w.heap[n+1]? = some (.cells #[u0,u1,u2,u3] 45 (0,0))
 r2:w.heap[n+2]? = some (.cells #[Value.int IntKind.i64 0] 39 (0,0))
def m7{w:World}{b:Nat}{o:Obj}(h:w.heap[b]? = some o):(s7 w).heap[b]? = some o:=by
 have hb:b<w.heap.size:=by
  rcases Io b w.heap.size with h1|h1
  ·exact h1
  ·rw[IM h1]at h;cases h
 unfold s7;rw[Go.Av.alloc_old _ _ hb];exact h
def RdRw.vcells{n:Nat}{w:World}{k f x0 x1 x2 x3:Value}(H:RdRw n w k f x0 x1 x2 x3):(w.cell? ⟨n+1,0,none⟩=some x0/\w.cell? ⟨n+1,1,none⟩=some x1/\w.cell? ⟨n+1,2,none⟩=some x2/\w.cell? ⟨n+1,3,none⟩=some x3/\w.cell? ⟨n+2,0,none⟩=some (.int .i64 0))/\
  (w.frozen? ⟨n+1,0,none⟩=false/\w.frozen? ⟨n+1,1,none⟩=false/\w.frozen? ⟨n+1,2,none⟩=false/\w.frozen? ⟨n+1,3,none⟩=false/\w.frozen? ⟨n+2,0,none⟩=false):=
 ⟨⟨by simp[World.cell?,H.r1],by simp[World.cell?,H.r1],by simp[World.cell?,H.r1],by simp[World.cell?,H.r1],by simp[World.cell?,H.r2]⟩,by simp[World.frozen?,H.r1],by simp[World.frozen?,H.r1],by simp[World.frozen?,H.r1],by simp[World.frozen?,H.r1],by simp[World.frozen?,H.r2]⟩
def RdRw.put{n:Nat}{w:World}{k f x0 x1 x2 x3:Value}(H:RdRw n w k f x0 x1 x2 x3)(u0 u1 u2 u3:Value):RdRw n (ir (n+1) w u0 u1 u2 u3) k f u0 u1 u2 u3:=by
 have e0:=heap_setCell_same w (n+1) 0 _ _ u0 H.r1;have e1:=heap_setCell_same _ (n+1) 1 _ _ u1 e0;have e2:=heap_setCell_same _ (n+1) 2 _ _ u2 e1;have e3:=heap_setCell_same _ (n+1) 3 _ _ u3 e2;refine⟨?_,e3,?_⟩
 ·unfold ir;rw[aM (by simp),aM (by simp),aM (by simp),aM (by simp)];exact H.r0
 ·unfold ir;rw[aM (by simp),aM (by simp),aM (by simp),aM (by simp)];exact H.r2
def my{n:Nat}{w:World}{k f x0 x1 x2 x3:Value}(H:RdRw n w k f x0 x1 x2 x3):CallsD Tryz.prog 53 #[.pointer (some ⟨n+1,0,none⟩),.pointer (some ⟨n+2,0,none⟩)] (.panicking [{ v:=.iface 81 (.agg #[]),recovered:=false }]) w fun e u' w'=>
   e= .returned (.tuple #[])/\u'= .panicking [{ v:=.iface 81 (.agg #[]),recovered:=true }]/\w'=cm (n+1) w:=by
 have r1:=m7 H.r1;have r2:=m7 H.r2;exact ue (n+1) (n+2) x0 x1 x2 x3 (.int .i64 0) w (by simp[World.cell?,r1]) (by simp[World.cell?,r1]) (by simp[World.cell?,r1]) (by simp[World.cell?,r1]) (by simp[World.cell?,r2])
  (by simp[World.frozen?,r1]) (by simp[World.frozen?,r1]) (by simp[World.frozen?,r1]) (by simp[World.frozen?,r1]) (by simp[World.frozen?,r2]) (by omega) (by omega)
def gZ{n:Nat}{w:World}{k f x0 x1 x2 x3:Value}(H:RdRw n w k f x0 x1 x2 x3):(cm (n+1) w).heap[n+1]? = some (.cells #[.int .i64 0,.int .i64 0,.slice none 0 0,.slice none 0 0] 45 (0,0))/\(cm (n+1) w).heap[n+2]? = some (.cells #[Value.int IntKind.i64 34] 39 (0,0)):=by
 have H':RdRw n (s7 w) k f x0 x1 x2 x3:=⟨m7 H.r0,m7 H.r1,m7 H.r2⟩;have P:=H'.put (.int .i64 0) (.int .i64 0) (.slice none 0 0) (.slice none 0 0);refine⟨?_,?_⟩
 ·unfold cm;rw[aM (by simp)];exact P.r1
 ·exact heap_setCell_same _ (n+2) 0 _ _ _ P.r2
def qV(n:Nat)(k f u0 u1 u2 u3:Value)(R:Ending->World->Prop):Ending->World->Prop:=fun e w'=>RdRw n w' k f u0 u1 u2 u3/\
 ((e= .returned (.bool true)/\R (.returned (.tuple #[.agg #[u0,u1,u2,u3],.int .i64 0])) ((ir (n+1) w' u0 u1 u2 u3).setCell ⟨n+2,0,none⟩ (.int .i64 0)))\/
  ((e= .returned (.bool false)\/e=Fy)/\R (.returned jo) (cm (n+1) w')))
def qW(n:Nat)(k f:Value)(R:Ending->World->Prop):Ending->World->Prop:=fun e w'=>RdRw n w' k f (.int .i64 0) (.int .i64 0) (.slice none 0 0) (.slice none 0 0)/\
 ((∃(u0 u1 u2 u3:Value)(y:ByteArray),u0.oneCell'=true/\u1.oneCell'=true/\u2.oneCell'=true/\u3.oneCell'=true/\e= .returned (.agg #[u0,u1,u2,u3])/\w'.cell? ⟨n+3,0,none⟩=some (.string y)/\
   ((y.toList.isEmpty=false/\R (.returned jo) (cm (n+1) (ir (n+1) w' u0 u1 u2 u3)))\/
    (y=⟨#[]⟩/\Calls Tryz.prog 20 #[.agg #[k,f],.agg #[u0,u1,u2,u3]] (ir (n+1) w' u0 u1 u2 u3) (qV n k f u0 u1 u2 u3 R))))\/
   (e=Fy/\R (.returned jo) (cm (n+1) w')))
def jf{w:World}{a:Addr}{v x:Value}{m:Mode}(h:w.cell? a=some x)(hf:w.frozen? a=false):stored Tryz.prog w a v m= .ok () (w.setCell a v):=by simp[stored,h,hf]
def ud{w:World}{b:Nat}{t:TypeId}{x0 x1 x2 x3:Value}(H:w.heap[b]? = some (.cells #[x0,x1,x2,x3] t (0,0)))(u0 u1 u2 u3:Value)(m:Mode):
  stored Tryz.prog w ⟨b,0,none⟩ u0 m= .ok () (w.setCell ⟨b,0,none⟩ u0)/\
  stored Tryz.prog (w.setCell ⟨b,0,none⟩ u0) ⟨b,1,none⟩ u1 m= .ok () ((w.setCell ⟨b,0,none⟩ u0).setCell ⟨b,1,none⟩ u1)/\
  stored Tryz.prog ((w.setCell ⟨b,0,none⟩ u0).setCell ⟨b,1,none⟩ u1) ⟨b,2,none⟩ u2 m= .ok () (((w.setCell ⟨b,0,none⟩ u0).setCell ⟨b,1,none⟩ u1).setCell ⟨b,2,none⟩ u2)/\
  stored Tryz.prog (((w.setCell ⟨b,0,none⟩ u0).setCell ⟨b,1,none⟩ u1).setCell ⟨b,2,none⟩ u2) ⟨b,3,none⟩ u3 m= .ok () (ir b w u0 u1 u2 u3):=by
 have e0:=heap_setCell_same w b 0 _ _ u0 H;have e1:=heap_setCell_same _ b 1 _ _ u1 e0;have e2:=heap_setCell_same _ b 2 _ _ u2 e1;exact⟨jf (x:=x0) (by simp[World.cell?,H]) (by simp[World.frozen?,H]),jf (x:=x1) (by simp[World.cell?,e0]) (by simp[World.frozen?,e0]),jf (x:=x2) (by simp[World.cell?,e1]) (by simp[World.frozen?,e1]),jf (x:=x3) (by simp[World.cell?,e2]) (by simp[World.frozen?,e2])⟩
def xd{b:Nat}{w:World}{u0 u1 u2 u3:Value}{c o:Nat}(h:c≠b):(ir b w u0 u1 u2 u3).cell? ⟨c,o,none⟩=w.cell? ⟨c,o,none⟩:=by
 unfold ir;rw[cell_of_heap (aM h),cell_of_heap (aM h),cell_of_heap (aM h),cell_of_heap (aM h)]
set_option maxHeartbeats 4000000 in
def xf(k f:Value)(hk:k.oneCell'=true)(hf:f.oneCell'=true)(x:ByteArray)(w:World)(R:Ending->World->Prop)(hc:Calls Tryz.prog 54 #[.pointer (some ⟨w.heap.size+3,0,none⟩),.int .i64 4] (uf w k f x) (qW w.heap.size k f R)):Calls Tryz.prog 19 #[.agg #[k,f],.string x] w R:=by
 have hmf:∀(fn:Fn)(first cap:Array Value)(w:World),(Instr.makeFunc fn first cap).run Tryz.prog w= .ok (.func fn first cap) w:=fun _ _ _ _=>rfl;unfold uf C1 at hc
 go_enter_defers Tryz.func19,Tryz.ntmps19
 go_wp2_with (go_at_call 54;refine hc.mono ?_;rintro e w' ⟨H,h⟩;rcases h with⟨u0,u1,u2,u3,y,o0,o1,o2,o3,rfl,hy,h⟩|⟨rfl,hR⟩)
 ·have s0:∀a m (w:World),(store a u0 m).run Tryz.prog w=stored Tryz.prog w a u0 m:=fun a m w=>run_store _ w a u0 m o0;have s1:∀a m (w:World),(store a u1 m).run Tryz.prog w=stored Tryz.prog w a u1 m:=fun a m w=>run_store _ w a u1 m o1;have s2:∀a m (w:World),(store a u2 m).run Tryz.prog w=stored Tryz.prog w a u2 m:=fun a m w=>run_store _ w a u2 m o2;have s3:∀a m (w:World),(store a u3 m).run Tryz.prog w=stored Tryz.prog w a u3 m:=fun a m w=>run_store _ w a u3 m o3;obtain⟨p0,p1,p2,p3⟩:=ud H.r1 u0 u1 u2 u3 .plain;simp only[s0,s1,s2,s3,p0,p1,p2,p3,Result.andThen];have P:=H.put u0 u1 u2 u3;have hy1:(ir (w.heap.size+1) w' u0 u1 u2 u3).cell? ⟨w.heap.size+3,0,none⟩=some (.string y):=by rw[xd (by simp)];exact hy
  clear hc H p0 p1 p2 p3 hy;generalize ir (w.heap.size+1) w' u0 u1 u2 u3=w1 at h P hy1 |-;have t0:w1.cell? ⟨w.heap.size,0,none⟩=some k:=by simp[World.cell?,P.r0]
  have t1:w1.cell? ⟨w.heap.size,1,none⟩=some f:=by simp[World.cell?,P.r0]
  have c0:w1.cell? ⟨w.heap.size+1,0,none⟩=some u0:=by simp[World.cell?,P.r1]
  have c1:w1.cell? ⟨w.heap.size+1,1,none⟩=some u1:=by simp[World.cell?,P.r1]
  have c2:w1.cell? ⟨w.heap.size+1,2,none⟩=some u2:=by simp[World.cell?,P.r1]
  have c3:w1.cell? ⟨w.heap.size+1,3,none⟩=some u3:=by simp[World.cell?,P.r1]
  rcases h with⟨hy0,hR⟩|⟨rfl,hcall⟩
  ·go_wp2
   refine leaves_cons (f:=53) (args:=#[.pointer (some ⟨w.heap.size+1,0,none⟩),.pointer (some ⟨w.heap.size+2,0,none⟩)]) (by simp) (by simp[go_sem]) ?_;refine (my P).mono ?_;rintro e u' w'' ⟨rfl,rfl,rfl⟩;simp only[settle];refine⟨_,?_,hR⟩;obtain⟨q1,q2⟩:=gZ P;have a0:(cm (w.heap.size+1) w1).cell? ⟨w.heap.size+1,0,none⟩=some (.int .i64 0):=by simp[World.cell?,q1]
   have a1:(cm (w.heap.size+1) w1).cell? ⟨w.heap.size+1,1,none⟩=some (.int .i64 0):=by simp[World.cell?,q1]
   have a2:(cm (w.heap.size+1) w1).cell? ⟨w.heap.size+1,2,none⟩=some (.slice none 0 0):=by simp[World.cell?,q1]
   have a3:(cm (w.heap.size+1) w1).cell? ⟨w.heap.size+1,3,none⟩=some (.slice none 0 0):=by simp[World.cell?,q1]
   have a4:(cm (w.heap.size+1) w1).cell? ⟨w.heap.size+2,0,none⟩=some (.int .i64 34):=by simp[World.cell?,q2]
   generalize cm (w.heap.size+1) w1=W at *;simp[results,Tryz.results19,go_sem,jo,a0,a1,a2,a3,a4]
  ·go_wp2_with (go_at_call 20;refine hcall.mono ?_;rintro e w3 ⟨H,h⟩;obtain⟨⟨d0,d1,d2,d3,d4⟩,g0,g1,g2,g3,g4⟩:=H.vcells;rcases h with⟨rfl,hR⟩|⟨rfl|rfl,hR⟩)
   ·clear P;refine leaves_cons (f:=53) (args:=#[.pointer (some ⟨w.heap.size+1,0,none⟩),.pointer (some ⟨w.heap.size+2,0,none⟩)]) (by simp) (by simp[go_sem]) ?_;refine (sF ⟨w.heap.size+1,0,none⟩ ⟨w.heap.size+2,0,none⟩ _).mono ?_;rintro e u' w'' ⟨rfl,rfl,rfl⟩;simp only[settle];refine⟨_,?_,hR⟩;simp[results,Tryz.results19,go_sem,World.cell?_setCell_same,d0,d1,d2,d3,d4]
   ·refine leaves_cons (f:=53) (args:=#[.pointer (some ⟨w.heap.size+1,0,none⟩),.pointer (some ⟨w.heap.size+2,0,none⟩)]) (by simp) (by simp[go_sem]) ?_;refine (my H).mono ?_;rintro e u' w'' ⟨rfl,rfl,rfl⟩;simp only[settle];refine⟨_,?_,hR⟩;obtain⟨q1,q2⟩:=gZ H;have a0:(cm (w.heap.size+1) w3).cell? ⟨w.heap.size+1,0,none⟩=some (.int .i64 0):=by simp[World.cell?,q1]
    have a1:(cm (w.heap.size+1) w3).cell? ⟨w.heap.size+1,1,none⟩=some (.int .i64 0):=by simp[World.cell?,q1]
    have a2:(cm (w.heap.size+1) w3).cell? ⟨w.heap.size+1,2,none⟩=some (.slice none 0 0):=by simp[World.cell?,q1]
    have a3:(cm (w.heap.size+1) w3).cell? ⟨w.heap.size+1,3,none⟩=some (.slice none 0 0):=by simp[World.cell?,q1]
    have a4:(cm (w.heap.size+1) w3).cell? ⟨w.heap.size+2,0,none⟩=some (.int .i64 34):=by simp[World.cell?,q2]
    generalize cm (w.heap.size+1) w3=W at *;simp[results,Tryz.results19,go_sem,jo,a0,a1,a2,a3,a4]
   ·refine leaves_cons (f:=53) (args:=#[.pointer (some ⟨w.heap.size+1,0,none⟩),.pointer (some ⟨w.heap.size+2,0,none⟩)]) (by simp) (by simp[go_sem]) ?_;refine (my H).mono ?_;rintro e u' w'' ⟨rfl,rfl,rfl⟩;simp only[settle];refine⟨_,?_,hR⟩;obtain⟨q1,q2⟩:=gZ H;have a0:(cm (w.heap.size+1) w3).cell? ⟨w.heap.size+1,0,none⟩=some (.int .i64 0):=by simp[World.cell?,q1]
    have a1:(cm (w.heap.size+1) w3).cell? ⟨w.heap.size+1,1,none⟩=some (.int .i64 0):=by simp[World.cell?,q1]
    have a2:(cm (w.heap.size+1) w3).cell? ⟨w.heap.size+1,2,none⟩=some (.slice none 0 0):=by simp[World.cell?,q1]
    have a3:(cm (w.heap.size+1) w3).cell? ⟨w.heap.size+1,3,none⟩=some (.slice none 0 0):=by simp[World.cell?,q1]
    have a4:(cm (w.heap.size+1) w3).cell? ⟨w.heap.size+2,0,none⟩=some (.int .i64 34):=by simp[World.cell?,q2]
    generalize cm (w.heap.size+1) w3=W at *;simp[results,Tryz.results19,go_sem,jo,a0,a1,a2,a3,a4]
 ·refine leaves_cons (f:=53) (args:=#[.pointer (some ⟨w.heap.size+1,0,none⟩),.pointer (some ⟨w.heap.size+2,0,none⟩)]) (by simp) (by simp[go_sem]) ?_;refine (my H).mono ?_;rintro e u' w'' ⟨rfl,rfl,rfl⟩;simp only[settle];refine⟨_,?_,hR⟩;obtain⟨q1,q2⟩:=gZ H;have a0:(cm (w.heap.size+1) w').cell? ⟨w.heap.size+1,0,none⟩=some (.int .i64 0):=by simp[World.cell?,q1]
  have a1:(cm (w.heap.size+1) w').cell? ⟨w.heap.size+1,1,none⟩=some (.int .i64 0):=by simp[World.cell?,q1]
  have a2:(cm (w.heap.size+1) w').cell? ⟨w.heap.size+1,2,none⟩=some (.slice none 0 0):=by simp[World.cell?,q1]
  have a3:(cm (w.heap.size+1) w').cell? ⟨w.heap.size+1,3,none⟩=some (.slice none 0 0):=by simp[World.cell?,q1]
  have a4:(cm (w.heap.size+1) w').cell? ⟨w.heap.size+2,0,none⟩=some (.int .i64 34):=by simp[World.cell?,q2]
  generalize cm (w.heap.size+1) w'=W at *;simp[results,Tryz.results19,go_sem,jo,a0,a1,a2,a3,a4]
def zn{S S1:ay}{β β1:List bq}{w w1:World}{h h1:Hp}(hg:mC S β h w)(L:Go.Av.Left (bv β h) S β w S1 β1 w1 h1):mC S1 β1 h1 w1:=by
 have hlt:=hg.1.lt;refine⟨hg.1.mono fun b hb=>(L.keep b (by omega) (hg.2.1 b hb)).1,fun b hb ho=>?_,hg.2.2.mono L.le⟩;rcases L.owned b ho with h|h
 ·exact hg.2.1 b hb h
 ·omega
def zA{S:ay}{w w2:World}(hw:Wf S w)(hg:Gro w w2)(hold:∀b,b<w.heap.size->w2.heap[b]? = w.heap[b]?):Go.Av.Left (bv [] []) S [] w S [] w2 []:=
 ⟨ay.le_refl S,dV.refl _,fun b o v hv=>by rw[cell_of_heap (hold b (hw.lt hv))];exact hw b o v hv,hg,fun b hb _=>⟨hold b hb,fun _=>rfl⟩,bN.nil,fun b ho=>by obtain⟨l,_,_,h1,_⟩:=ho;simp at h1⟩
def RdRw.keep{n:Nat}{w w':World}{k f x0 x1 x2 x3:Value}(H:RdRw n w k f x0 x1 x2 x3)(h:∀j,j<3->w'.heap[n+j]? = w.heap[n+j]?):RdRw n w' k f x0 x1 x2 x3:=
 ⟨(h 0 (by omega)).trans H.r0,(h 1 (by omega)).trans H.r1,(h 2 (by omega)).trans H.r2⟩
def zV(w:World)(k f:Value)(x:ByteArray):(uf w k f x).heap.size=w.heap.size+4:=by simp[uf,C1]
def BQ(w:World)(k f:Value)(x:ByteArray)(b:Nat)(hb:b<w.heap.size):(uf w k f x).heap[b]? = w.heap[b]?:=by
 unfold uf C1;rw[Go.Av.alloc_old _ _ (by simp;omega),Go.Av.alloc_old _ _ (by simp;omega),Go.Av.alloc_old _ _ (by simp;omega),Go.Av.alloc_old _ _ hb]
def vL(w:World)(k f:Value)(x:ByteArray):Gro w (uf w k f x):=(((Gro.alloc w _ _).trans (Gro.alloc _ _ _)).trans (Gro.alloc _ _ _)).trans (Gro.alloc _ _ _)
def zU(w:World)(k f:Value)(x:ByteArray):RdRw w.heap.size (uf w k f x) k f (.int .i64 0) (.int .i64 0) (.slice none 0 0) (.slice none 0 0):=by
 unfold uf C1;refine⟨?_,?_,?_⟩
 ·rw[Go.Av.alloc_old _ _ (by simp;omega),Go.Av.alloc_old _ _ (by simp;omega),Go.Av.alloc_old _ _ (by simp)];exact heap_alloc_new w _
 ·rw[Go.Av.alloc_old _ _ (by simp),Go.Av.alloc_old _ _ (by simp)]
  have:=heap_alloc_new (w.alloc (Obj.cells #[k,f] 35)) (Obj.cells #[Value.int IntKind.i64 0,Value.int IntKind.i64 0,Value.slice none 0 0,Value.slice none 0 0] 45)
  rwa [World.size_alloc]at this
 ·rw[Go.Av.alloc_old _ _ (by simp)]
  have:=heap_alloc_new ((w.alloc (Obj.cells #[k,f] 35)).alloc (Obj.cells #[Value.int IntKind.i64 0,Value.int IntKind.i64 0,Value.slice none 0 0,Value.slice none 0 0] 45)) (Obj.cells #[Value.int IntKind.i64 0] 39)
  rwa [World.size_alloc,World.size_alloc]at this
def BR(w:World)(k f:Value)(x:ByteArray):(uf w k f x).heap[w.heap.size+3]? = some (.cells #[.string x] 85 (0,0)):=by
 unfold uf
 have:=heap_alloc_new (C1 w k f) (Obj.cells #[.string x] 85)
 have hs:(C1 w k f).heap.size=w.heap.size+3:=by simp[C1]
 rwa [hs]at this
def kD(b:Nat)(w:World)(u0 u1 u2 u3:Value):Gro w (ir b w u0 u1 u2 u3):=(((Gro.setCell _ _ _).trans (Gro.setCell _ _ _)).trans (Gro.setCell _ _ _)).trans (Gro.setCell _ _ _)
def wD(b:Nat)(w:World):Gro w (cm b w):=((Gro.alloc w _ _).trans (kD _ _ _ _ _ _)).trans (Gro.setCell _ _ _)
def ll{b c:Nat}{w:World}{u0 u1 u2 u3:Value}(h:c≠b):(ir b w u0 u1 u2 u3).heap[c]? = w.heap[c]?:=by
 unfold ir;rw[aM h,aM h,aM h,aM h]
def wE{b c:Nat}{w:World}(h:c<b)(hs:b<=w.heap.size):(cm b w).heap[c]? = w.heap[c]?:=by
 unfold cm;rw[aM (by simp;omega),ll (by omega)];exact Go.Av.alloc_old _ _ (by omega)
def i6{S:ay}{w w':World}(hw:Wf S w)(hg:Gro w w')(hs:w.heap.size+1<=w'.heap.size)(hold:∀b,b<w.heap.size->w'.heap[b]? = w.heap[b]?):cS none S [] [] w (.ok uV []) (.returned jo) (cm (w.heap.size+1) w'):=by
 refine⟨S,[],jo,rfl,?_,zA hw (hg.trans (wD _ _)) (fun b hb=>by rw[wE (by omega) hs];exact hold b hb),fun sz hsz=>by cases hsz⟩;simp only[uV,jo,VR,aW];refine⟨[.agg #[.int .i64 0,.int .i64 0,.slice none 0 0,.slice none 0 0],.int .i64 34],rfl,_,_,rfl,⟨[.int .i64 0,.int .i64 0,.slice none 0 0,.slice none 0 0],rfl,_,_,rfl,rfl,_,_,rfl,rfl,_,_,rfl,?_,_,_,rfl,?_,rfl⟩,_,_,rfl,rfl,rfl⟩
 ·exact⟨none,0,rfl,Ie _,fun _=>rfl,fun q hq=>by cases hq⟩
 ·exact⟨none,0,rfl,Ie _,fun _=>rfl,fun q hq=>by cases hq⟩
def jl{v:AV}{h:Hp}(hne:fj 81 (.pan v h)≠.fail):v= .iface 81 (.agg [])/\fj 81 (.pan v h)= .ok uV []:=by
 unfold fj at hne |-;split at hne
 ·rename_i heq;cases heq
 ·rename_i t h' heq;cases heq;cases hb:Nat.beq t 81 with
  |false=>rw[hb]at hne;exact absurd rfl hne
  |true=>rw[Ii hb];exact⟨rfl,rfl⟩
 ·exact absurd rfl hne
 ·exact absurd rfl hne
def vK{S:ay}{β:List bq}{v:Value}(h:VR S β (.iface 81 (.agg [])) v):v= .iface 81 (.agg #[]):=by
 simp only[VR,aW]at h;obtain⟨x,rfl,vs,rfl,rfl⟩:=h;rfl
def vj{n:Nat}{s:List UInt8}{b:Nat}(h:bv [(n,1)] [[AV.str s]] b):b=n:=by
 obtain⟨l,cs,m,h1,h2,h3⟩:=h;cases l with
 |zero=>simp at h3;exact h3.1.symm
 |succ l=>simp at h1
def sx{m:Nat}{v:AV}(hm:m≠1)(h:bD m v=true):∃cs,v= .agg cs:=by
 simp only[bD,H6]at h;have h1:=h.1;cases v<;>simp[cd]at h1<;>first|exact⟨_,rfl⟩|(exfalso;omega)
def zq(call:FuncId->List AV->M AV)(hC:b8 Tryz.prog own call){S S1:ay}{β1:List bq}{w w1:World}{h1:Hp}{k f u0 u1 u2 u3:Value}{t v:AV}(hw:Wf S w)(hg1:mC S1 β1 h1 w1)(L1:Go.Av.Left (bv [] []) S [] w S1 β1 w1 h1)(hsz:w.heap.size+4<=w1.heap.size)(hB:∀b,w.heap.size<=b->b<w.heap.size+3->¬bv β1 h1 b/\∀o,S1 b o=none)(hR:RdRw w.heap.size w1 k f u0 u1 u2 u3)(ht:VR S1 β1 t (.agg #[k,f]))(hv:VR S1 β1 v (.agg #[u0,u1,u2,u3]))(hok:bD 4 v=true)(hr:fj 81 ((ae (call 20 [t,v]) fun r=>az r (M.pure (.tup [.agg (aa v),.int .i64 0])) (da (.iface 81 (.agg [])))) h1)≠.fail):
  Calls Tryz.prog 20 #[.agg #[k,f],.agg #[u0,u1,u2,u3]] w1 (qV w.heap.size k f u0 u1 u2 u3 (cS none S [] [] w (fj 81 ((ae (call 20 [t,v]) fun r=>az r (M.pure (.tup [.agg (aa v),.int .i64 0])) (da (.iface 81 (.agg [])))) h1)))):=by
 have hne:call 20 [t,v] h1≠.fail:=fun e=>hr (by unfold ae;rw[e];rfl);have hc:=(hC 20 [t,v] h1 S1 β1 w1 [.agg #[k,f],.agg #[u0,u1,u2,u3]] hne hg1 L1.wf L1.heap (by simp only[aW];exact⟨_,_,rfl,ht,_,_,rfl,hv,rfl⟩)).1;refine hc.mono fun en w2 hp=>?_;have rows:∀S2 β2 h2,Go.Av.Left (bv β1 h1) S1 β1 w1 S2 β2 w2 h2->RdRw w.heap.size w2 k f u0 u1 u2 u3:=fun S2 β2 h2 L=>hR.keep fun j hj=>(L.keep _ (by omega) (hB _ (by omega) (by omega)).1).1;have old:∀S2 β2 h2,Go.Av.Left (bv β1 h1) S1 β1 w1 S2 β2 w2 h2->(Gro w w2/\w.heap.size+1<=w2.heap.size/\∀b,b<w.heap.size->w2.heap[b]? = w.heap[b]?):=fun S2 β2 h2 L=>by
  have LL:=L1.trans L
  have:=L.size
  exact⟨LL.gro,by omega,fun b hb=>(LL.keep b hb (fun ho=>by obtain⟨l,_,_,q1,_⟩:=ho;simp at q1)).1⟩
 unfold ae at hr |-;generalize call 20 [t,v] h1=r at hr hne hp |-;cases r with
 |fail=>exact absurd rfl hne
 |pan pv h2=>
  obtain⟨S2,β2,x,rfl,hx,L⟩:=hp;obtain⟨rfl,hcr⟩:=jl hr
  have:=vK hx
  subst this;obtain⟨g1,g2,g3⟩:=old _ _ _ L;refine⟨rows _ _ _ L,.inr ⟨.inr rfl,?_⟩⟩;show cS none S [] [] w (fj 81 (.pan (.iface 81 (.agg [])) h2)) _ _;rw[hcr];exact i6 hw g1 g2 g3
 | ok rv h2=>
  obtain⟨S2,β2,x,rfl,hx,L,-⟩:=hp;obtain⟨g1,g2,g3⟩:=old _ _ _ L;have hrv:∃b,rv= .bool b:=by
   cases rv
   case bool b=>exact⟨b,rfl⟩
   all_goals exact absurd rfl hr
  obtain⟨b,rfl⟩:=hrv;simp only[VR]at hx;subst hx;refine⟨rows _ _ _ L,?_⟩;cases b with
  |false=>exact .inr ⟨.inl rfl,i6 hw g1 g2 g3⟩
  | true=>
   refine .inl ⟨rfl,?_⟩;have LL:=(L1.trans L).store (w2:=(ir (w.heap.size+1) w2 u0 u1 u2 u3).setCell ⟨w.heap.size+2,0,none⟩ (.int .i64 0)) ((kD _ _ _ _ _ _).trans (Gro.setCell _ _ _)) (fun b=>w.heap.size<=b/\b<w.heap.size+3) (fun b hb=>by
    have hs:=L1.size;refine⟨hb.1,fun ho=>?_,fun o=>?_⟩
    ·rcases L.owned b ho with ho|ho
     ·exact (hB b hb.1 hb.2).1 ho
     ·omega
    ·rw[(L.keep b (by omega) (hB b hb.1 hb.2).1).2 o];exact (hB b hb.1 hb.2).2 o) (fun b hb=>by
    rw[aM (by intro e;simp at e;omega),ll (by omega)])
   refine⟨S2,β2,_,rfl,?_,LL,fun sz hsz=>by cases hsz⟩;obtain⟨_,hvs,_⟩:=eX hok (hv.mono L.le L.ext);simp only[VR,aW];exact⟨[.agg #[u0,u1,u2,u3],.int .i64 0],rfl,_,_,rfl,⟨[u0,u1,u2,u3],rfl,hvs⟩,_,_,rfl,rfl,rfl⟩
def pD(call:FuncId->List AV->M AV)(t v:AV):M AV:=ae (Bb 4 v) fun _=>ae ny fun s=>ae (af (yX s)) fun b=>az b (ae (call 20 [t,v]) fun r=>az r (M.pure (.tup [.agg (aa v),.int .i64 0])) (da (.iface 81 (.agg [])))) (da (.iface 81 (.agg [])))
theorem sG(call:FuncId->List AV->M AV)(t:AV):vO 81 54 20 call t=ae (call 54 [.hp 0 0,.int .i64 4]) (pD call t):=rfl
def Ao(call:FuncId->List AV->M AV)(t v:AV)(h1:Hp)(hr:fj 81 (pD call t v h1)≠.fail):bD 4 v=true/\∃s',h1[0]? = some [AV.str s']/\pD call t v h1=az (.bool s'.isEmpty) (ae (call 20 [t,v]) fun r=>az r (M.pure (.tup [.agg (aa v),.int .i64 0])) (da (.iface 81 (.agg [])))) (da (.iface 81 (.agg []))) h1:=by
 have e1:∀g:AV->M AV,ae (Bb 4 v) g h1=bif bD 4 v then g v h1 else .fail:=by intro g;unfold ae Bb;cases bD 4 v<;>rfl
 unfold pD at hr |-;rw[e1]at hr |-;cases hk:bD 4 v with
 |false=>rw[hk]at hr;exact absurd rfl hr
 | true=>
  rw[hk]at hr;simp only[H7]at hr |-;by_cases hex:∃s',h1[0]? = some [AV.str s']
  ·obtain⟨s',hrow⟩:=hex;have e2:∀g:AV->M AV,ae ny g h1=g (.str s') h1:=by intro g;unfold ae ny;rw[hrow]
   exact⟨trivial,s',hrow,by rw[e2];rfl⟩
  ·have e2:∀g:AV->M AV,ae ny g h1= .fail:=by
    intro g;have:ny h1= .fail:=by
     unfold ny;split
     ·exact absurd ⟨_,by assumption⟩ hex
     ·rfl
    unfold ae;rw[this]
   rw[e2]at hr;exact absurd rfl hr
def FN(call:FuncId->List AV->M AV)(hC:b8 Tryz.prog own call)(args:List AV)(h:Hp)(S:ay)(β:List bq)(w:World)(vs:List Value)(hr:pt 81 54 20 call args h≠.fail)(hg:mC S β h w)(hw:Wf S w)(hh:bN S β w h)(hv:aW S β args vs):
  Calls Tryz.prog 19 vs.toArray w (cS none S β h w (pt 81 54 20 call args h)):=by
 have hr':pu 81 54 20 call (dC au args) []≠.fail:=by
  intro hf;unfold pt fV at hr;rw[hf]at hr;exact hr rfl
 have hv':=rn hv;have hg':mC S [] [] w:=⟨hg.1,fun b _ hb=>by obtain⟨l,_,_,h1,_⟩:=hb;simp at h1,hg.2.2⟩
 suffices key:Calls Tryz.prog 19 vs.toArray w (cS none S [] [] w (pu 81 54 20 call (dC au args) []))from key.mono fun en w' hp=>r7 hw hh hp
 generalize dC au args=ar at hr' hv' |-;clear hr hv hh hg;unfold pu at hr' |-;split at hr'
 case h_2=>exact absurd rfl hr'
 rename_i t s _;cases ho:bD 2 t with
 |false=>rw[ho]at hr';exact absurd rfl hr'
 | true=>
  rw[ho]at hr';simp only[H7]at hr' |-;simp only[aW]at hv';obtain⟨vt,r,rfl,ht,hv'⟩:=hv';obtain⟨xv,r',rfl,hxv,rfl⟩:=hv';simp only[VR]at hxv;obtain⟨x,rfl,hx⟩:=hxv;obtain⟨g1,g2,g3⟩:=eX ho ht;obtain⟨tc,rfl⟩:=sx (by decide) ho;have ht0:=ht;simp only[VR]at ht;obtain⟨us,rfl,hus⟩:=ht;simp only[Value.cells]at g1 g3
  match us,g1 with
  | [k,f],_=>
   clear hus g2;have hk:=g3 k (by simp);have hf:=g3 f (by simp);refine xf k f hk hf x w _ ?_;have hs0:=zV w k f x;have hold:=BQ w k f x;have hX:bN S [(w.heap.size+3,1)] (uf w k f x) [[AV.str s]]:=bN.push (β:=[]) (h:=[]) bN.nil hw hold (by omega) (BR w k f x) (by simp only[aW,VR];exact⟨_,_,rfl,⟨x,rfl,hx⟩,rfl⟩) (fun t' ht=>by obtain⟨a,ha,hb⟩:=ht;rw[I5.1 ha]at hb;cases hb);have hG:mC S [(w.heap.size+3,1)] [[AV.str s]] (uf w k f x):=⟨hg'.1.mono fun b hb=>hold b (IK hb hg'.1.lt),fun b hb ho=>by have:=vj ho;have:=hg'.1.lt;omega,hg'.2.2⟩;have hne:call 54 [.hp 0 0,.int .i64 4] [[AV.str s]]≠.fail:=fun e=>hr' (by rw[sG];unfold ae;rw[e];rfl);have hc:=(hC 54 [.hp 0 0,.int .i64 4] [[AV.str s]] S [(w.heap.size+3,1)] (uf w k f x) [.pointer (some ⟨w.heap.size+3,0,none⟩),.int .i64 4] hne hG (hw.grow hold) hX (by simp only[aW,VR];exact⟨_,_,rfl,⟨(w.heap.size+3,1),rfl,by simp,rfl⟩,_,_,rfl,rfl,rfl⟩)).1;refine hc.mono fun en w1 hp=>?_;have rows:∀S1 β1 h1,Go.Av.Left (bv [(w.heap.size+3,1)] [[AV.str s]]) S [(w.heap.size+3,1)] (uf w k f x) S1 β1 w1 h1->RdRw w.heap.size w1 k f (.int .i64 0) (.int .i64 0) (.slice none 0 0) (.slice none 0 0):=fun S1 β1 h1 L=>(zU w k f x).keep fun j hj=>(L.keep _ (by omega) (fun ho=>by have:=vj ho;omega)).1;rw[sG]at hr' |-;unfold ae at hr' |-;generalize call 54 [.hp 0 0,.int .i64 4] [[AV.str s]]=r at hr' hne hp |-;cases r with
   |fail=>exact absurd rfl hne
   |pan pv h1=>
    obtain⟨S1,β1,z,rfl,hz,L⟩:=hp;obtain⟨rfl,hcr⟩:=jl hr'
    have:=vK hz
    subst this;have LL:=pc (β:=[]) (h:=[]) hw bN.nil (vL w k f x) hold (by simp) L;refine⟨rows _ _ _ L,.inr ⟨rfl,?_⟩⟩;show cS none S [] [] w (fj 81 (.pan (.iface 81 (.agg [])) h1)) _ _;rw[hcr]
    have:=L.size
    exact i6 hw LL.gro (by omega) fun b hb=>(LL.keep b hb (fun ho=>by obtain⟨l,_,_,q1,_⟩:=ho;simp at q1)).1
   | ok v h1=>
    obtain⟨S1,β1,z,rfl,hz,L,-⟩:=hp;have hR1:=rows _ _ _ L;have hs1:=L.size;have hown:∀b,w.heap.size<=b->b<w.heap.size+3->¬bv β1 h1 b/\∀o,S1 b o=none:=fun b hb1 hb2=>by
     refine⟨fun ho=>?_,fun o=>?_⟩
     ·rcases L.owned b ho with ho|ho
      ·have:=vj ho;omega
      ·omega
     ·rw[(L.keep b (by omega) (fun ho=>by have:=vj ho;omega)).2 o];exact hw.none hb1 o
    have LL:=pc (β:=[]) (h:=[]) hw bN.nil (vL w k f x) hold (by simp) L;change fj 81 (pD call (.agg tc) v h1)≠.fail at hr';show qW w.heap.size k f (cS none S [] [] w (fj 81 (pD call (.agg tc) v h1))) _ _;obtain⟨hok,s',hrow,e3⟩:=Ao call (.agg tc) v h1 hr';rw[e3]at hr' |-;refine⟨hR1,.inl ?_⟩;obtain⟨hlen,ω,hHr⟩:=L.heap;have hb0:β1[0]? = some (w.heap.size+3,1):=L.ext 0 _ rfl;obtain⟨y',q1,⟨ty,q2⟩,_,q4,_⟩:=hHr.cells hrow (by simp) hb0 (by decide);simp only[aW,VR]at q4;obtain⟨_,_,q5,⟨y,rfl,hy⟩,rfl⟩:=q4;have hyc:w1.cell? ⟨w.heap.size+3,0,none⟩=some (.string y):=by
     have h0:y'[0]? = some (.string y):=by
      have:=H8 (fun l=>l[0]?) q5
      simpa using this
     simp[World.cell?,q2,h0]
    obtain⟨p1,p2,p3⟩:=eX hok hz;have hz0:=hz;obtain⟨vc,rfl⟩:=sx (by decide) hok;simp only[VR]at hz;obtain⟨us,rfl,hus⟩:=hz;simp only[Value.cells]at p1 p3
    match us,p1 with
    | [u0,u1,u2,u3],_=>
     refine⟨u0,u1,u2,u3,y,p3 u0 (by simp),p3 u1 (by simp),p3 u2 (by simp),p3 u3 (by simp),rfl,hyc,?_⟩;have L2:=LL.store (w2:=ir (w.heap.size+1) w1 u0 u1 u2 u3) (kD _ _ _ _ _ _) (fun b=>w.heap.size<=b/\b<w.heap.size+3) (fun b hb=>⟨hb.1,hown b hb.1 hb.2⟩) (fun b hb=>ll (by omega));have hs2:w.heap.size+4<=(ir (w.heap.size+1) w1 u0 u1 u2 u3).heap.size:=by have:=(kD (w.heap.size+1) w1 u0 u1 u2 u3).size;omega
     cases hse:s'.isEmpty with
     |false=>
      refine .inl ⟨?_,?_⟩
      ·rw[ByteArray.toList_eq,hy,hse]
      ·exact i6 hw L2.gro (by omega) fun b hb=>(L2.keep b hb (fun ho=>by obtain⟨l,_,_,q1,_⟩:=ho;simp at q1)).1
     | true=>
      rw[hse]at hr';refine .inr ⟨?_,?_⟩
      ·have:s'=[]:=List.isEmpty_iff.1 hse;subst this;obtain⟨⟨l⟩⟩:=y;simp only at hy;rw[hy]
      ·exact zq call hC hw (zn hg' L2) L2 hs2 hown (hR1.put u0 u1 u2 u3) (ht0.mono L2.le (dV.nil _)) hz0 hok hr'
noncomputable def yR(n:Nat)(a:Ann):Cx:={ T:=T,call:=fun _ _=>M.fail,own:=own,iso:=fun _=>false,nw:=fun _=>false,nt:=n,ann:=a }
def oR(n:Nat)(a:Ann):b8 Tryz.prog (yR n a).own (yR n a).call:=fun f args h S β w vs hr=>absurd rfl hr
def uT(n:Nat)(a:Ann):IsoCall (yR n a):=⟨fun f args h=>Bool.noConfusion h,fun f args h=>Bool.noConfusion h⟩
def Fp(e:AV)(es:List AV):cp (yR Tryz.f249.ntmps pR) (cu 0) Tryz.f249 none [.sl (e:: es)]=ae (appH T 30 true (.sl []) (.sl (e:: es))) fun v=>ae (af (some v)) M.pure:=by kernel_rfl
def Fq:cp (yR Tryz.f249.ntmps pR) (cu 0) Tryz.f249 none [.hn]=ae (af (some (.sl []))) M.pure:=by kernel_rfl
def Ft(l off:Nat):cp (yR Tryz.f249.ntmps pR) (cu 0) Tryz.f249 none [.hs l off 0 1 false]=ae (appH T 30 true (.sl []) (.hs l off 0 1 false)) fun v=>ae (af (some v)) M.pure:=by kernel_rfl
def Fi(e:AV)(es:List AV):cp (yR Tryz.f219.ntmps pQ) (cu 0) Tryz.f219 none [.sl (e:: es)]=ae (af (db T 22 (.sl []) (.sl (e:: es)))) fun v=>ae (af (some v)) M.pure:=by kernel_rfl
def Fj:cp (yR Tryz.f219.ntmps pQ) (cu 0) Tryz.f219 none [.hn]=ae (af (some (.sl []))) M.pure:=by kernel_rfl
def Fl(l off:Nat):cp (yR Tryz.f219.ntmps pQ) (cu 0) Tryz.f219 none [.hs l off 0 1 false]=ae (af (db T 22 (.sl []) (.hs l off 0 1 false))) fun v=>ae (af (some v)) M.pure:=by kernel_rfl
def Fo(l off:Nat):db T 22 (.sl []) (.hs l off 0 1 false)=some (.sl []):=by rfl
def Ee(call:FuncId->List AV->M AV)(args:List AV)(h:Hp)(S:ay)(β:List bq)(w:World)(vs:List Value)(hr:eq T 30 call args h≠.fail)(hg:mC S β h w)(hw:Wf S w)(hh:bN S β w h)(hv:aW S β args vs):
  Calls Tryz.prog 249 vs.toArray w (cS none S β h w (eq T 30 call args h)):=by
 have key:∀es,args=[.sl es]->Calls Tryz.prog 249 vs.toArray w (cS none S β h w (eq T 30 call args h)):=by
  rintro es rfl;exact (lG (cx:=yR Tryz.f249.ntmps pR) (E:=fun es h=>eq T 30 call [.sl es] h) tok (oR _ _) (uT _ _) Tryz.func249 rfl (fun h=>by rfl) (fun e es h=>by rw[Fp];exact congrFun (yI _) h) (fun h=>by rw[Fq];rfl) (fun l off h=>by rw[Ft];rfl) hr hg hw hh hv).1
 unfold eq at hr;split at hr
 ·exact key _ rfl
 ·exact absurd rfl hr
def Ed(call:FuncId->List AV->M AV)(args:List AV)(h:Hp)(S:ay)(β:List bq)(w:World)(vs:List Value)(hr:gW T 22 call args h≠.fail)(hg:mC S β h w)(hw:Wf S w)(hh:bN S β w h)(hv:aW S β args vs):
  Calls Tryz.prog 219 vs.toArray w (cS none S β h w (gW T 22 call args h)):=by
 have key:∀es,args=[.sl es]->Calls Tryz.prog 219 vs.toArray w (cS none S β h w (gW T 22 call args h)):=by
  rintro es rfl;exact (lG (cx:=yR Tryz.f219.ntmps pQ) (E:=fun es h=>gW T 22 call [.sl es] h) tok (oR _ _) (uT _ _) Tryz.func219 rfl (fun h=>by rfl) (fun e es h=>by rw[Fi];exact congrFun (yI _) h) (fun h=>by rw[Fj];rfl) (fun l off h=>by rw[Fl,Fo];rfl) hr hg hw hh hv).1
 unfold gW at hr;split at hr
 ·exact key _ rfl
 ·exact absurd rfl hr
def EV:Prop:=∀call,b8 Tryz.prog own call->∀(args:List AV)(h:Hp)(S:ay)(β:List bq)(w:World)(vs:List Value),sW 39 .i64 (.agg [.int .i64 0,.int .i64 0,.sl [],.sl []]) call args h≠.fail->mC S β h w->Wf S w->bN S β w h->aW S β args vs->
 Calls Tryz.prog 132 vs.toArray w (cS none S β h w (sW 39 .i64 (.agg [.int .i64 0,.int .i64 0,.sl [],.sl []]) call args h))
def lq(w:World):World:=(w.alloc (Obj.cells #[Value.int IntKind.i64 0,Value.int IntKind.i64 0,Value.slice none 0 0,Value.slice none 0 0] 45)).alloc (Obj.cells #[Value.int IntKind.i64 0] 39)
def uw(w w':World)(u0 u1 u2 u3 e:Value):World:=((((w'.setCell ⟨w.heap.size,0,none⟩ u0).setCell ⟨w.heap.size,1,none⟩ u1).setCell ⟨w.heap.size,2,none⟩ u2).setCell ⟨w.heap.size,3,none⟩ u3).setCell ⟨w.heap.size+1,0,none⟩ e
def G6(w:World)(R:Ending->World->Prop):Ending->World->Prop:=fun e w'=>
 w'.heap[w.heap.size]? = (lq w).heap[w.heap.size]? /\w'.heap[w.heap.size+1]? = (lq w).heap[w.heap.size+1]? /\
 ((∃u0 u1 u2 u3:Value,u0.oneCell'=true/\u1.oneCell'=true/\u2.oneCell'=true/\u3.oneCell'=true/\e= .returned (.agg #[u0,u1,u2,u3])/\R (.returned (.tuple #[.agg #[u0,u1,u2,u3],.int .i64 0])) (uw w w' u0 u1 u2 u3 (.int .i64 0)))\/
  ∃n,e= .panicked [{ v:=.iface 39 (.int .i64 n),recovered:=false }]/\R (.returned (.tuple #[.agg #[.int .i64 0,.int .i64 0,.slice none 0 0,.slice none 0 0],.int .i64 n])) (uw w w' (.int .i64 0) (.int .i64 0) (.slice none 0 0) (.slice none 0 0) (.int .i64 n)))
set_option maxHeartbeats 4000000 in
def Ay(g:FuncId)(x y:Array Value)(w:World)(R:Ending->World->Prop)(hfn:(Tryz.prog.funcs[g]?).any (fun fn=>fn.body.isSome&&!(fn.name== "runtime.NumGoroutine"))=true)(hc:Calls Tryz.prog g (x++y) (lq w) (G6 w R)):Calls Tryz.prog 132 #[.func (.func g) x y] w R:=by
 have hmf:∀(fn:Fn)(first cap:Array Value)(w:World),(Instr.makeFunc fn first cap).run Tryz.prog w= .ok (.func fn first cap) w:=fun _ _ _ _=>rfl
 go_enter_defers Tryz.func132,Tryz.ntmps132
 go_wp2
 rw[fD hfn,Oper.upon_enter];refine hc.mono fun e w' h=>?_;obtain⟨k0,k1,h⟩:=h;have r0:w'.heap[w.heap.size]? = some (.cells #[Value.int IntKind.i64 0,Value.int IntKind.i64 0,Value.slice none 0 0,Value.slice none 0 0] 45):=by rw[k0];exact (Go.Av.alloc_old _ _ (by simp)).trans (heap_alloc_new w _)
 have r1:w'.heap[w.heap.size+1]? = some (.cells #[Value.int IntKind.i64 0] 39):=by rw[k1];have:=heap_alloc_new (w.alloc (Obj.cells #[Value.int IntKind.i64 0,Value.int IntKind.i64 0,Value.slice none 0 0,Value.slice none 0 0] 45)) (Obj.cells #[Value.int IntKind.i64 0] 39);rwa [World.size_alloc]at this
 have c0:w'.cell? ⟨w.heap.size,0,none⟩=some (.int .i64 0):=by simp[World.cell?,r0]
 have c1:w'.cell? ⟨w.heap.size,1,none⟩=some (.int .i64 0):=by simp[World.cell?,r0]
 have c2:w'.cell? ⟨w.heap.size,2,none⟩=some (.slice none 0 0):=by simp[World.cell?,r0]
 have c3:w'.cell? ⟨w.heap.size,3,none⟩=some (.slice none 0 0):=by simp[World.cell?,r0]
 have d0:w'.cell? ⟨w.heap.size+1,0,none⟩=some (.int .i64 0):=by simp[World.cell?,r1]
 have f0:w'.frozen? ⟨w.heap.size,0,none⟩=false:=by simp[World.frozen?,r0]
 have f1:w'.frozen? ⟨w.heap.size,1,none⟩=false:=by simp[World.frozen?,r0]
 have f2:w'.frozen? ⟨w.heap.size,2,none⟩=false:=by simp[World.frozen?,r0]
 have f3:w'.frozen? ⟨w.heap.size,3,none⟩=false:=by simp[World.frozen?,r0]
 have g0:w'.frozen? ⟨w.heap.size+1,0,none⟩=false:=by simp[World.frozen?,r1]
 clear k0 k1 r0 r1 hc hmf;rcases h with⟨u0,u1,u2,u3,o0,o1,o2,o3,rfl,hR⟩|⟨n,rfl,hR⟩
 ·simp only;rename_i K1 hK1 K hK;apply hK;clear hK;have hK1':=hK1;clear hK1;have s0:∀a m (w:World),(store a u0 m).run Tryz.prog w=stored Tryz.prog w a u0 m:=fun a m w=>run_store _ w a u0 m o0;have s1:∀a m (w:World),(store a u1 m).run Tryz.prog w=stored Tryz.prog w a u1 m:=fun a m w=>run_store _ w a u1 m o1;have s2:∀a m (w:World),(store a u2 m).run Tryz.prog w=stored Tryz.prog w a u2 m:=fun a m w=>run_store _ w a u2 m o2;have s3:∀a m (w:World),(store a u3 m).run Tryz.prog w=stored Tryz.prog w a u3 m:=fun a m w=>run_store _ w a u3 m o3
  go_wp2
  change Leaves _ _ _ _ _ _ _;refine leaves_cons (f:=165) (args:=#[.pointer (some ⟨w.heap.size,0,none⟩),.pointer (some ⟨w.heap.size+1,0,none⟩)]) (by simp) (by simp[go_sem]) ?_;refine (tt ⟨w.heap.size,0,none⟩ ⟨w.heap.size+1,0,none⟩ _).mono ?_;rintro e u' w'' ⟨rfl,rfl,rfl⟩;simp only[Leaves,settle];refine⟨_,?_,hR⟩;simp[results,Tryz.results132,go_sem,uw,World.cell?_setCell_same,c0,c1,c2,c3,d0]
 ·change Leaves _ _ _ _ _ _ _;refine leaves_cons (f:=165) (args:=#[.pointer (some ⟨w.heap.size,0,none⟩),.pointer (some ⟨w.heap.size+1,0,none⟩)]) (by simp) (by simp[go_sem]) ?_;refine (wo w.heap.size (w.heap.size+1) _ _ _ _ _ n w' c0 c1 c2 c3 d0 f0 f1 f2 f3 g0 (by omega) (by omega)).mono ?_;rintro e u' w'' ⟨rfl,rfl,rfl⟩;simp only[Leaves,settle];refine⟨_,?_,hR⟩;simp[results,Tryz.results132,go_sem,uw,World.cell?_setCell_same,c0,c1,c2,c3,d0]
def lr(w:World):(lq w).heap.size=w.heap.size+2:=by simp[lq]
def Ax(w:World)(b:Nat)(hb:b<w.heap.size):(lq w).heap[b]? = w.heap[b]?:=by
 unfold lq;rw[Go.Av.alloc_old _ _ (by simp;omega),Go.Av.alloc_old _ _ hb]
def sZ(w:World):Gro w (lq w):=(Gro.alloc w _ _).trans (Gro.alloc _ _ _)
def sY(w w':World)(u0 u1 u2 u3 e:Value):Gro w' (uw w w' u0 u1 u2 u3 e):=
 ((((Gro.setCell _ _ _).trans (Gro.setCell _ _ _)).trans (Gro.setCell _ _ _)).trans (Gro.setCell _ _ _)).trans (Gro.setCell _ _ _)
def pF(w w':World)(u0 u1 u2 u3 e:Value)(b:Nat)(hb:¬(w.heap.size<=b/\b<(lq w).heap.size)):(uw w w' u0 u1 u2 u3 e).heap[b]? = w'.heap[b]?:=by
 rw[lr]at hb;unfold uw;rw[aM (by simp;omega),aM (by simp;omega),aM (by simp;omega),aM (by simp;omega),aM (by simp;omega)]
def wn{call:FuncId->List AV->M AV}{f:AV}{xs:List AV}{h:Hp}(hr:bW call f xs h≠.fail):∃g a c,f= .fn (.func g) a c:=by
 unfold bW at hr;split at hr
 ·exact⟨_,_,_,rfl⟩
 ·exact absurd rfl hr
theorem Eo:EV:=by
 intro call hC args h S β w vs hr hg hw hh hv
 have key:∀f,args=[f]->Calls Tryz.prog 132 vs.toArray w (cS none S β h w (sW 39 .i64 (.agg [.int .i64 0,.int .i64 0,.sl [],.sl []]) call args h)):=by
  rintro f rfl;have ht:sW 39 .i64 (.agg [.int .i64 0,.int .i64 0,.sl [],.sl []]) call [f] h=sX 39 .i64 (.agg [.int .i64 0,.int .i64 0,.sl [],.sl []]) (bW call f [] h):=rfl;rw[ht]at hr |-;clear ht;simp only[aW]at hv;obtain⟨fv,_,rfl,hv,rfl⟩:=hv;have hne:bW call f [] h≠.fail:=fun e=>by rw[e]at hr;exact hr rfl
  obtain⟨g,a,c,rfl⟩:=wn hne
  ·have hcv:bW call (.fn (.func g) a c) [] h=call g (a++[]++c) h:=rfl;rw[hcv]at hr hne |-;simp only[VR]at hv;obtain⟨x,y,rfl,hx,hy⟩:=hv;have hold:=Ax w;have hv2:aW S β (a++[]++c) (x++y):=by simpa using hx.append hy
   obtain⟨hcall,hfn⟩:=hC g (a++[]++c) h S β (lq w) (x++y) hne ⟨hg.1.mono fun b hb=>hold b (IK hb hg.1.lt),hg.2⟩ (hw.grow hold) (hh.grow hold) hv2;refine Ay g x.toArray y.toArray w _ hfn ?_;have e:(x++y).toArray=x.toArray++y.toArray:=by simp
   rw[<- e];refine hcall.mono fun en w' hp=>?_;have kk:∀S' β' h',Go.Av.Left (bv β h) S β (lq w) S' β' w' h'->w'.heap[w.heap.size]? = (lq w).heap[w.heap.size]? /\w'.heap[w.heap.size+1]? = (lq w).heap[w.heap.size+1]?:=fun S' β' h' L=>
    ⟨(L.keep _ (by rw[lr];omega) fun ho=>by have:=hh.low ho;omega).1,(L.keep _ (by rw[lr];omega) fun ho=>by have:=hh.low ho;omega).1⟩
   generalize call g (a++[]++c) h=r at hr hne hp |-;cases r with
   |fail=>exact absurd rfl hne
   | ok v h'=>
    obtain⟨S',β',u,rfl,hu,L,_⟩:=hp;refine⟨(kk _ _ _ L).1,(kk _ _ _ L).2,.inl ?_⟩;simp only[sX]at hr |-;cases hok:bD 4 v with
    |false=>rw[hok]at hr;exact absurd rfl hr
    | true=>
     obtain⟨g1,g2,g3⟩:=eX hok hu;have hcs:∃cs,v= .agg cs:=by
      simp only[bD,H6]at hok;have h1:=hok.1;cases v<;>simp[cd]at h1;exact⟨_,rfl⟩
     obtain⟨cs,rfl⟩:=hcs;simp only[VR]at hu;obtain⟨us,rfl,hus⟩:=hu;simp only[Value.cells]at g1 g3
     match us,g1 with
     |[u0,u1,u2,u3],_=>
      refine⟨u0,u1,u2,u3,g3 u0 (by simp),g3 u1 (by simp),g3 u2 (by simp),g3 u3 (by simp),rfl,S',β',_,rfl,?_,pd (sZ w) hold L (sY ..) (fun b hb=>pF w w' _ _ _ _ _ b hb) hw hh,fun sz hsz=>by cases hsz⟩;simp only[VR,aW];exact⟨[.agg #[u0,u1,u2,u3],.int .i64 0],rfl,_,_,rfl,⟨[u0,u1,u2,u3],rfl,hus⟩,_,_,rfl,rfl,rfl⟩
   | pan v h'=>
    obtain⟨S',β',u,rfl,hu,L⟩:=hp;refine⟨(kk _ _ _ L).1,(kk _ _ _ L).2,.inr ?_⟩;unfold sX at hr |-;split at hr
    ·rename_i heq;cases heq
    ·rename_i t' k' n h'' heq;cases heq;cases hb:(Nat.beq t' 39&&decide (k'=IntKind.i64))with
     |false=>rw[hb]at hr;exact absurd rfl hr
     |true=>
      simp only[H6,Ia]at hb;obtain⟨hb1,rfl⟩:=hb
      have:=Ii hb1
      subst this;simp only[VR]at hu;obtain⟨u',rfl,rfl⟩:=hu;refine⟨n,rfl,S',β',_,rfl,?_,pd (sZ w) hold L (sY ..) (fun b hb=>pF w w' _ _ _ _ _ b hb) hw hh,fun sz hsz=>by cases hsz⟩;simp only[VR,aW];refine⟨[.agg #[.int .i64 0,.int .i64 0,.slice none 0 0,.slice none 0 0],.int .i64 n],rfl,_,_,rfl,⟨[.int .i64 0,.int .i64 0,.slice none 0 0,.slice none 0 0],rfl,_,_,rfl,rfl,_,_,rfl,rfl,_,_,rfl,?_,_,_,rfl,?_,rfl⟩,_,_,rfl,rfl,rfl⟩
      ·exact⟨none,0,rfl,Ie _,fun _=>rfl,fun q hq=>by cases hq⟩
      ·exact⟨none,0,rfl,Ie _,fun _=>rfl,fun q hq=>by cases hq⟩
    ·exact absurd rfl hr
 rcases args with _|⟨f,_|⟨f2,r⟩⟩
 ·exact absurd rfl hr
 ·exact key _ rfl
 ·exact absurd rfl hr
end Go.Proofs.YtihmmkncokjbaaaGreatDoor
namespace Go.Proofs.YtihmmkncokjbaaaGreatDoor
open Go Go.Av Go.RowKit
set_option maxRecDepth 100000
def GJ{α:Type}{f k:Nat}{x:α}{o:Option α}{y:α}(h:(bif Nat.beq f k then some x else o)=some y):(f=k/\x=y)\/o=some y:=by
 cases hb:Nat.beq f k with
 |true=>rw[hb]at h;exact .inl ⟨Ii hb,by simpa using h⟩
 |false=>rw[hb]at h;exact .inr h
def yG{α:Type}{f k:Nat}{x y:α}{o:Option α}{P:Prop}(h1:f=k->x=y->P)(h2:o=some y->P)(h:(bif Nat.beq f k then some x else o)=some y):P:=(GJ h).elim (fun h=>h1 h.1 h.2) h2
def GQ:GoodPg Tryz.prog pg where
 tok:=tok
 funcs:=zj
 other:=by
  intro f E hE call hC args h S β w vs hr hg hw hh hv;have h0:other f=some E:=hE;unfold other at h0;revert h0
  repeat' refine yG ?_ ?_
  all_goals first
   |(intro h0;cases h0;done)
   |(rintro rfl rfl;exact absurd rfl hr)
   |(rintro rfl rfl;exact⟨FN call hC args h S β w vs hr hg hw hh hv,by kernel_rfl⟩)
   |(rintro rfl rfl;exact⟨FO call args h S β w vs hr hg hw hh hv,by kernel_rfl⟩)
   |(rintro rfl rfl;exact⟨FP call args h S β w vs hr hg hw hh hv,by kernel_rfl⟩)
   |(rintro rfl rfl;exact⟨FQ call args h S β w vs hr hg hw hh hv,by kernel_rfl⟩)
   |(rintro rfl rfl;exact⟨Eo call hC args h S β w vs hr hg hw hh hv,by kernel_rfl⟩)
   |(rintro rfl rfl;exact⟨Ea call args h S β w vs hr hg hw hh hv,by kernel_rfl⟩)
   |(rintro rfl rfl;exact⟨Eb call args h S β w vs hr hg hw hh hv,by kernel_rfl⟩)
   |(rintro rfl rfl;exact⟨Ec call args h S β w vs hr hg hw hh hv,by kernel_rfl⟩)
   |(rintro rfl rfl;exact⟨Ed call args h S β w vs hr hg hw hh hv,by kernel_rfl⟩)
   |(rintro rfl rfl;exact⟨Ee call args h S β w vs hr hg hw hh hv,by kernel_rfl⟩)
 nw:=by
  intro f hf;have h0:(bif Nat.beq f 249 then true else false)=true:=hf;cases hb:Nat.beq f 249 with
  |true=>
   have:=Ii hb
   subst this;exact⟨_,rfl,fun call args=>wu _ _ _ _⟩
  |false=>rw[hb]at h0;cases h0
end Go.Proofs.YtihmmkncokjbaaaGreatDoor
namespace Go.Proofs.YtihmmkncokjbaaaGreatDoor
open Go Go.Av Go.ChangeShapes Go.WideShapes Go.ChangeAt Go.RowKit
set_option maxRecDepth 1000000
def GY:ownKnob Tryz.prog.godebug=none:=by kernel_rfl
def star: "*" ++ "errors.errorString" = "*errors.errorString" :=by decide
def nV(u:TypeId)(h:Tryz.prog.typeName? 3 u=some "*errors.errorString"):u=272:=
 typeName_ptr_named (nm:= "errors.errorString") (by rw[star];kernel_rfl) (by kernel_rfl) (by decide) u (by rw[star];exact h)
def DO{W:World}(hL:laidMetH Tryz.prog Rows.stateStaysRow.laid W)(hS:W.ShapedOpen Tryz.prog):GOKw W:=by
 have h0:laidMet Tryz.prog Rows.stateStaysRow.laid W:=hL;have h1:=h0.tail;have h2:=h1.tail;have h3:=h2.tail;have h4:=h3.tail;have hp:=Lib.tabIs_of_head (k:=.u64) (zs:=Lib.pow10Tab) (g:=0) (t:=244) (e:=206) (n:=20) (by kernel_rfl) (by kernel_rfl) (by kernel_rfl) (by kernel_rfl) (by kernel_rfl) (by kernel_rfl) h2;obtain⟨a0,s0,v0,_⟩:=laid_sentinel (g:=3) (ti:=124) (tp:=272) (te:=274) (ts:=9) h3 (by kernel_rfl) (by kernel_rfl) Tryz.underlying124 nV Tryz.underlying272 Tryz.underlying274 rfl rfl Tryz.underlying9 (by kernel_rfl) (by kernel_rfl);obtain⟨a1,s1,v1,_⟩:=laid_sentinel (g:=2) (ti:=124) (tp:=272) (te:=274) (ts:=9) h4 (by kernel_rfl) (by kernel_rfl) Tryz.underlying124 nV Tryz.underlying272 Tryz.underlying274 rfl rfl Tryz.underlying9 (by kernel_rfl) (by kernel_rfl);have hvar:∀ {name:String} {g:Nat} {cs:Array Value},Tryz.prog.globalNamed name=some g->W.var? Tryz.prog name=some cs->∃t fr,W.heap[g]? = some (.cells cs t fr):=by
  intro name g cs hn hv;unfold World.var? at hv;rw[hn]at hv;simp only[JS]at hv;split at hv
  ·rename_i c t fr hh;simp only[H5]at hv;subst hv;exact⟨t,fr,hh⟩
  ·cases hv
 have hcell:∀ {g:Nat} {v:Value},(∃t fr,W.heap[g]? = some (.cells #[v] t fr))->W.cell? ⟨g,0,none⟩=some v:=by
  rintro g v ⟨t,fr,hh⟩;simp[World.cell?,hh]
 refine⟨?_,hvar (by kernel_rfl) hp,⟨_,_,hcell (hvar (by kernel_rfl) v1)⟩,⟨_,_,hcell (hvar (by kernel_rfl) v0)⟩⟩;exact cell_of_shapedOpen_int (zero:=#[.int .i64 0]) (t:=3) hS (Jy (by kernel_rfl)) (by kernel_rfl) rfl (by kernel_rfl) (by kernel_rfl) Tryz.underlying3
mutual
def j0:DataW Unit->List Value
 |.lit (.bool b)=>[.bool b]
 |.lit (.int k n)=>[.int k n]
 |.lit (.string s)=>[.string ⟨s.toArray⟩]
 |.agg ps=>yS ps
 |_=>[]
def yS:List (DataW Unit)->List Value
 |[]=>[]
 |d:: ds=>j0 d++yS ds
end
abbrev G0:ByteArray:={ data:=#[105,110,118,97,108,105,100,32,115,121,110,116,97,120] }
abbrev GZ:ByteArray:={ data:=#[118,97,108,117,101,32,111,117,116,32,111,102,32,114,97,110,103,101] }
noncomputable def low:Nat:=(World.holding Tryz.prog default ⟨#[],#[],[]⟩).heap.size
noncomputable def AB:List (Option (Array Value)):=[some (j0 Rows.laid_internal_strconv_uint64pow10).toArray,none,some #[.iface 272 (.pointer (some ⟨low,0,none⟩))],some #[.iface 272 (.pointer (some ⟨low+1,0,none⟩))],
 some (j0 Rows.laid_math_bits_deBruijn32tab).toArray,some (j0 Rows.laid_math_bits_deBruijn64tab).toArray]
def qv:List Obj->List (Option (Array Value))->List Obj
 |.cells _ t fr:: os,some c:: cs=>.cells c t fr:: qv os cs
 |o:: os,_:: cs=>o:: qv os cs
 |os,[]=>os
 |[],_=>[]
noncomputable def kY(os:Os):World:=
 let w0:=World.holding Tryz.prog os ⟨#[.cells #[.string G0] 274,.cells #[.string GZ] 274],#[],[]⟩
 { w0 with heap:=(qv w0.heap.toList AB).toArray }
def zy(os:Os)(args:Array Value):laidMet Tryz.prog Rows.stateStaysRow.laid ((kY os).forCall (fun _ _=>0) ⟨#[],args,[]⟩).memory:=
 laidMet_of_run3 8 (by kernel_rfl) (by kernel_rfl) (by kernel_rfl)
end Go.Proofs.YtihmmkncokjbaaaGreatDoor
namespace Go.Proofs.YtihmmkncokjbaaaGreatDoor
open Go Go.Av Go.Av.Ap Go.RowKit
set_option maxRecDepth 1000000
section
variable {H:Type} {enc:TypeId×Value->H} {W:World}
theorem iQ:reachBytes=140737488351232:=rfl
theorem Ty.lim_mk{k:Int}{fs:List ca}(h2:fs.length<=140737488355328)(h3:∀v∈fs,v.2.Lim):(Ty.mk k fs).Lim:=fun j=>match j with
 |0=>trivial
 |j+1=>⟨h2,fun x hx=>h3 x hx j⟩
theorem nQ{N:Nat}(h:Rd enc Tryz.prog W N 35 (fun v:Ty=>v.cells) Ty.Lim):Rd enc Tryz.prog W (N+1) 23 (fun l:List ca=>[bd l]) (fun l=>l.length<=140737488355328/\∀v∈l,v.2.Lim):=
 (iP ((eK Tryz.underlying37 (by kernel_rfl) (aS (lp Tryz.underlying9) rfl (by kernel_rfl:_=1) (aS h rfl (by kernel_rfl:_=2) f4))).map (fun x=>((x.1,x.2.1):ca)) (cells':=fun f=>aa (bG f)) (Ok':=fun f=>f.2.Lim) (fun x=>by simp[Ty.cells_eq]) (fun x h=>h.2.1))
  Tryz.underlying23 (by kernel_rfl:_=3) (by decide) (by kernel_rfl:_=48) (ev:=bG) (iZ fun v=>by rw[ki];rfl)).map id (fun l=>by simp[bd,fT]) (fun l h=>⟨by have:=h.1;rw[iQ]at this;simp only[id];omega,h.2⟩)
theorem zY:∀N,Rd enc Tryz.prog W N 35 (fun v:Ty=>v.cells) Ty.Lim
 |0=>.zero
 | N+1=>(eK Tryz.underlying35 (by kernel_rfl) (aS (ln Tryz.underlying3) rfl (by kernel_rfl:_=1) (aS ((nQ (zY N)).le (J6 N)) rfl (by kernel_rfl:_=1) f4))).map (fun x=>Ty.mk x.1 x.2.1)
   (fun x=>by simp[Ty.cells_eq,Ty.kind,Ty.fields]) (fun x h=>Ty.lim_mk h.2.1.1 h.2.1.2)
end
end Go.Proofs.YtihmmkncokjbaaaGreatDoor
namespace Go.Proofs.YtihmmkncokjbaaaGreatDoor
open Go Go.Av Go.Av.Ap Go.RowKit
set_option maxRecDepth 1000000
section
variable {H:Type} {enc:TypeId×Value->H} {W:World}
theorem qz(N:Nat):Rd enc Tryz.prog W N 22 (fun l:List bF=>[strs l]) (fun l=>l.length<=8796093022208):=
 (iP (lp Tryz.underlying9) Tryz.underlying22 (by kernel_rfl:_=1) (by decide) (by kernel_rfl:_=16) (yU fun _=>rfl)).map id (fun _=>rfl) (fun l h=>by have:=h.1;rw[iQ]at this;simp only[id];omega)
theorem Exp.lim_mk{o n:Int}{s m:bF}{ns:List bF}{es:List Exp}(h1:ns.length<=8796093022208)(h2:es.length<=140737488355328)(h3:∀v∈es,v.Lim):(Exp.mk o n s m ns es).Lim:=fun j=>match j with
 |0=>trivial
 |j+1=>⟨h1,h2,fun x hx=>h3 x hx j⟩
theorem nP{N:Nat}(h:Rd enc Tryz.prog W N 66 (fun v:Exp=>v.cells) Exp.Lim):Rd enc Tryz.prog W N 24 (fun l:List Exp=>[bQ l]) (fun l=>l.length<=140737488355328/\∀v∈l,v.Lim):=
 (iP h Tryz.underlying24 (by kernel_rfl:_=6) (by decide) (by kernel_rfl:_=96) (ev:=Exp.av) (iZ fun v=>rfl)).map id (fun l=>by simp[bQ,fR]) (fun l h=>⟨by have:=h.1;rw[iQ]at this;simp only[id];omega,h.2⟩)
theorem ug:∀N,Rd enc Tryz.prog W N 66 (fun v:Exp=>v.cells) Exp.Lim
 |0=>.zero
 | N+1=>(eK Tryz.underlying66 (by kernel_rfl) (aS (ln Tryz.underlying3) rfl (by kernel_rfl:_=1) (aS (ln Tryz.underlying3) rfl (by kernel_rfl:_=1) (aS (lp Tryz.underlying9) rfl (by kernel_rfl:_=1) (aS (lp Tryz.underlying9) rfl (by kernel_rfl:_=1)
   (aS (qz N) rfl (by kernel_rfl:_=1) (aS (nP (ug N)) rfl (by kernel_rfl:_=1) f4))))))).map (fun x=>Exp.mk x.1 x.2.1 x.2.2.1 x.2.2.2.1 x.2.2.2.2.1 x.2.2.2.2.2.1) (fun x=>by simp[Exp.cells_eq,Exp.op,Exp.n,Exp.s,Exp.m,Exp.names,Exp.args]) (fun x h=>Exp.lim_mk h.2.2.2.2.1 h.2.2.2.2.2.1.1 h.2.2.2.2.2.1.2)
theorem qx(N:Nat):Rd enc Tryz.prog W N 24 (fun l:List Exp=>[bQ l]) (fun l=>l.length<=140737488355328/\∀v∈l,v.Lim):=nP (ug N)
theorem qy(N:Nat):Rd enc Tryz.prog W N 23 (fun l:List ca=>[bd l]) (fun l=>l.length<=140737488355328/\∀v∈l,v.2.Lim):=(nQ (zY N)).le (J6 N)
theorem Ei(N:Nat):Rd enc Tryz.prog W (N+1) 68 (fun f:Fun=>aa f.av) Fun.Lim:=
 (eK Tryz.underlying68 (by kernel_rfl) (aS (lp Tryz.underlying9) rfl (by kernel_rfl:_=1) (aS (vM Tryz.underlying4) rfl (by kernel_rfl:_=1) (aS (qy N) rfl (by kernel_rfl:_=1) (aS (zY N) rfl (by kernel_rfl:_=2)
  (aS (ln Tryz.underlying3) rfl (by kernel_rfl:_=1) (aS (ug N) rfl (by kernel_rfl:_=6) f4))))))).map (fun x=>(⟨x.1,x.2.1,x.2.2.1,x.2.2.2.1,x.2.2.2.2.1,x.2.2.2.2.2.1⟩:Fun))
  (fun x=>by simp[Ty.cells_eq,Exp.cells_eq]) (fun x h=>⟨h.2.2.1.1,h.2.2.1.2,h.2.2.2.1,h.2.2.2.2.2.1⟩)
theorem BU(N:Nat):Rd enc Tryz.prog W N 25 (fun l:List Fun=>[gE l]) (fun l=>l.length<=140737488355328/\∀v∈l,v.Lim):=
 ((iP (Ei N) Tryz.underlying25 (by kernel_rfl:_=12) (by decide) (by kernel_rfl:_=184) (ev:=Fun.av) (iZ fun v=>rfl)).map id (fun l=>by simp[gE]) (fun l h=>⟨by have:=h.1;rw[iQ]at this;simp only[id];omega,h.2⟩)).le (J6 N)
theorem zX(N:Nat):Rd enc Tryz.prog W (N+1) 29 (fun m:Mod=>aa m.av) Mod.Lim:=
 (eK Tryz.underlying29 (by kernel_rfl) (aS (lp Tryz.underlying9) rfl (by kernel_rfl:_=1) (aS (qz N) rfl (by kernel_rfl:_=1) (aS (qy N) rfl (by kernel_rfl:_=1) (aS (qx N) rfl (by kernel_rfl:_=1)
  (aS (BU N) rfl (by kernel_rfl:_=1) (aS (vM Tryz.underlying4) rfl (by kernel_rfl:_=1)
  (aS ((eK Tryz.underlying27 (by kernel_rfl) (aS (qy N) rfl (by kernel_rfl:_=1) (aS (qx N) rfl (by kernel_rfl:_=1) (aS (qx N) rfl (by kernel_rfl:_=1) f4)))).le (J6 N)) rfl (by kernel_rfl:_=3) f4)))))))).map
  (fun x=>(⟨x.1,x.2.1,x.2.2.1,x.2.2.2.1,x.2.2.2.2.1,x.2.2.2.2.2.1,x.2.2.2.2.2.2.1.1,x.2.2.2.2.2.2.1.2.1,x.2.2.2.2.2.2.1.2.2.1⟩:Mod))
  (fun x=>by simp) (fun x h=>⟨by have:=h.2.1;simp only;omega,h.2.2.1.1,h.2.2.1.2,h.2.2.2.1.1,h.2.2.2.1.2,h.2.2.2.2.1.1,h.2.2.2.2.1.2,h.2.2.2.2.2.2.1.1.1,h.2.2.2.2.2.2.1.1.2,h.2.2.2.2.2.2.1.2.1.1,h.2.2.2.2.2.2.1.2.1.2,h.2.2.2.2.2.2.1.2.2.1.1,h.2.2.2.2.2.2.1.2.2.1.2⟩)
end
end Go.Proofs.YtihmmkncokjbaaaGreatDoor
namespace Go.Proofs.YtihmmkncokjbaaaGreatDoor
open Go Go.Av Go.Av.Ap Go.RowKit
set_option maxRecDepth 1000000
section
variable {H:Type} {enc:TypeId×Value->H} {W:World}
theorem Val.lim_mk{k n:Int}{ns:List bF}{vs:List Val}(h1:ns.length<=140737488355328)(h2:vs.length<=140737488355328)(h3:∀v∈vs,v.Lim):(Val.mk k n ns vs).Lim:=fun j=>match j with
 |0=>trivial
 |j+1=>⟨h1,h2,fun x hx=>h3 x hx j⟩
theorem nR{N:Nat}(h:Rd enc Tryz.prog W N 45 (fun v:Val=>aa v.av) Val.Lim):Rd enc Tryz.prog W N 30 (fun l:List Val=>[vals l]) (fun l=>l.length<=140737488355328/\∀v∈l,v.Lim):=
 (iP h Tryz.underlying30 (by kernel_rfl:_=4) (by decide) (by kernel_rfl:_=64) (ev:=Val.av) (iZ fun v=>by rw[v.av_eq];rfl)).map id (fun l=>by simp[vals,dt]) (fun l h=>⟨by have:=h.1;rw[iQ]at this;simp only[id];omega,h.2⟩)
theorem rd_val:∀N,Rd enc Tryz.prog W N 45 (fun v:Val=>aa v.av) Val.Lim
 |0=>.zero
 | N+1=>(eK Tryz.underlying45 (by kernel_rfl) (aS (ln Tryz.underlying3) rfl (by kernel_rfl:_=1) (aS (ln Tryz.underlying3) rfl (by kernel_rfl:_=1) (aS (qz N) rfl (by kernel_rfl:_=1)
   (aS (nR (rd_val N)) rfl (by kernel_rfl:_=1) f4))))).map (fun x=>Val.mk x.1 x.2.1 x.2.2.1 x.2.2.2.1) (fun x=>by simp[Val.av_eq,aa]) (fun x h=>Val.lim_mk (by have:=h.2.2.1;omega) h.2.2.2.1.1 h.2.2.2.1.2)
theorem BV(N:Nat):Rd enc Tryz.prog W N 30 (fun l:List Val=>[vals l]) (fun l=>l.length<=140737488355328/\∀v∈l,v.Lim):=nR (rd_val N)
end
end Go.Proofs.YtihmmkncokjbaaaGreatDoor
