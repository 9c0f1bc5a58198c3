/- What the functions of the seat compute, part 4: the texts of the claim, one behind the other. Conditions: bounds, as each theorem names them. -/
import Derived.Test.YteemeakjlfnapaaGreatDoorTc
import Derived.Shelf.SlGeneric
import Derived.Ground.SlsfProg
import Derived.Shelf.SlSortCmp.NoneTotal
import Derived.Test.YteemeakjlfnapaaGreatDoorLd
import Derived.Test.YteemeakjlfnapaaGreatDoorRows
import Derived.Lib.LaidTab
import Derived.Stop.LaidErr
import Derived.Shelf.Vars
import Derived.ProofKit
import Derived.Deep.DeepHandedRow
import Derived.Deep.DeepWitnessRowRef
import Derived.Deep.DeepLaidRun
set_option linter.defProp false
set_option linter.unusedSimpArgs false
set_option linter.unusedVariables false
namespace Go.Proofs.YteemeakjlfnapaaGreatDoor.F
open Go Go.Av Go.Av.Ap
set_option maxRecDepth 100000
def ry:Ann:={ kinds:=[(1,.L),(4,.S)],hl:=[16],nl:=[16,21],lw:=[2,4,8],loops:=[(0,{ vals:=[(10,none),(11,none),(12,none),(2000,none),(2001,none),(3000,none),(3001,none)],locs:=[(1,2000,0),(2,3000,0)],lbs:=[(2000,2),(3000,2)] })] }
def oO:Ann:={ iso:=false,ha:=[7] }
noncomputable def jJ:List (Nat×(Func×Ann)):=[(104,(Tryz.f104,ry))]
def own:FuncId->Option Nat:=fun _=>none
noncomputable def other:FuncId->Option ((FuncId->List AV->M AV)->List AV->M AV):=fun f=>bif Nat.beq f 163 then some (cB T 25)else none
noncomputable def pg:Pg:={ T:=T,funcs:=nM jJ,own:=own,other:=other,nw:=fun f=>bif Nat.beq f 163 then true else false }
def hOther:cH pg:=by
 intro f E hE call calls hc;have h0:other f=some E:=hE;unfold other at h0;rcases cX h0 with rfl|h0
 ·exact lG _ _ _ _
 cases h0
noncomputable def L104_0(call:FuncId->RR)(fx:bU AV)(a:RR)(b:List AV):M AV:=af (ah (au T BinOp.lss 3 (nth b 2) (nth b 1))) (fun c=>aD c (af (ah (ap T 25 (nth b 0) (nth b 2))) (fun d=>af (fI T 76 d) (fun e=>af (aV 3 e) (fun f=>af (ah (aa T 76 (.ip (ab f)) 1)) (fun g=>af (ah (aj T 27 g)) (fun h=>af (cK (call 104 [h])) (fun i=>af (ah (ap T 25 (nth b 4) (nth b 2))) (fun j=>af (ah (aa T 76 j 1)) (fun k=>af (fB T 27 k i) (fun l=>af (ah (au T BinOp.add 3 (nth b 2) (.int IntKind.i64 1))) (fun m=>a [nth b 0,nth b 1,m,nth b 3,nth b 4,nth b 5,nth b 6]))))))))))) (af (az 2 [] (.agg [nth b 3,nth b 4])) (fun n=>M.pure (AV.agg [nth (ab n) 0,nth (ab n) 1]))))
def XL104_0{call:FuncId->RR}:bS (L104_0 call ak) fun _n=>L104_0 call ak  :=by
 intro a b c d;unfold L104_0;exact (aF.bnd (aF.const _) fun _=>(ay (aF.bnd (aF.const _) fun _=>(aF.bnd (aF.const _) fun _=>(aF.bnd (aF.const _) fun _=>(aF.bnd (aF.const _) fun _=>(aF.bnd (aF.const _) fun _=>(aF.bnd (aF.const _) fun _=>(aF.bnd (aF.const _) fun _=>(aF.bnd (aF.const _) fun _=>(aF.bnd (aF.const _) fun _=>(aF.bnd (aF.const _) fun _=>c _)))))))))) (aF.const _)))
def FL104_0(call:FuncId->RR)(vs:List AV):ak (L104_0 call ak) vs=L104_0 call ak  (ak (L104_0 call ak)) vs:=bd (XL104_0) vs
noncomputable def S104(call:FuncId->RR)(fx:bU AV)(a0:AV):M AV:=af (aV 2 a0) (fun a=>af (call 163 [nth (ab a) 1]) (fun b=>af (bm b) (fun c=>af (ah (aO T 25 b)) (fun d=>fx (L104_0 call fx) [b,d,.int IntKind.i64 0,nth (ab a) 0,b,.int IntKind.i64 0,.sl []]))))
def E104(call:FuncId->List AV->M AV)(fx:bU AV)(a0:AV):bB (pg.cx call Tryz.f104.ntmps ry) fx Tryz.f104 (own 104) [a0]=S104 call fx a0:=by kernel_rfl
def C104(a0:AV):ai pg 104 [a0]=aE (S104 (ai pg) ak (cl ax a0)):=(aw hOther rfl rfl rfl _).trans (Er aE (E104 _ _ (cl ax a0)))
end Go.Proofs.YteemeakjlfnapaaGreatDoor.F
namespace Go.Proofs.YteemeakjlfnapaaGreatDoor
open Go Go.Av Go.Av.Ap
set_option maxRecDepth 100000
@[simp] theorem FA24_0(cs:List AV):aa T 24 (.ip cs) 0=some (.ip (cs.drop 0)):=rfl
@[simp] theorem FH24_0(l k:Nat):aa T 24 (.hp l k) 0=some (.hp l (k+0)):=rfl
@[simp] theorem FA24_1(cs:List AV):aa T 24 (.ip cs) 1=some (.ip (cs.drop 1)):=rfl
@[simp] theorem FH24_1(l k:Nat):aa T 24 (.hp l k) 1=some (.hp l (k+1)):=rfl
@[simp] theorem FA27_0(cs:List AV):aa T 27 (.ip cs) 0=some (.ip (cs.drop 0)):=rfl
@[simp] theorem FH27_0(l k:Nat):aa T 27 (.hp l k) 0=some (.hp l (k+0)):=rfl
@[simp] theorem FA27_1(cs:List AV):aa T 27 (.ip cs) 1=some (.ip (cs.drop 1)):=rfl
@[simp] theorem FH27_1(l k:Nat):aa T 27 (.hp l k) 1=some (.hp l (k+1)):=rfl
@[simp] theorem FA29_0(cs:List AV):aa T 29 (.ip cs) 0=some (.ip (cs.drop 0)):=rfl
@[simp] theorem FH29_0(l k:Nat):aa T 29 (.hp l k) 0=some (.hp l (k+0)):=rfl
@[simp] theorem FA29_1(cs:List AV):aa T 29 (.ip cs) 1=some (.ip (cs.drop 1)):=rfl
@[simp] theorem FH29_1(l k:Nat):aa T 29 (.hp l k) 1=some (.hp l (k+1)):=rfl
@[simp] theorem FA29_2(cs:List AV):aa T 29 (.ip cs) 2=some (.ip (cs.drop 2)):=rfl
@[simp] theorem FH29_2(l k:Nat):aa T 29 (.hp l k) 2=some (.hp l (k+2)):=rfl
@[simp] theorem FA39_0(cs:List AV):aa T 39 (.ip cs) 0=some (.ip (cs.drop 0)):=rfl
@[simp] theorem FH39_0(l k:Nat):aa T 39 (.hp l k) 0=some (.hp l (k+0)):=rfl
@[simp] theorem FA39_1(cs:List AV):aa T 39 (.ip cs) 1=some (.ip (cs.drop 1)):=rfl
@[simp] theorem FH39_1(l k:Nat):aa T 39 (.hp l k) 1=some (.hp l (k+1)):=rfl
@[simp] theorem FA39_2(cs:List AV):aa T 39 (.ip cs) 2=some (.ip (cs.drop 2)):=rfl
@[simp] theorem FH39_2(l k:Nat):aa T 39 (.hp l k) 2=some (.hp l (k+2)):=rfl
@[simp] theorem FA41_0(cs:List AV):aa T 41 (.ip cs) 0=some (.ip (cs.drop 0)):=rfl
@[simp] theorem FH41_0(l k:Nat):aa T 41 (.hp l k) 0=some (.hp l (k+0)):=rfl
@[simp] theorem FA41_1(cs:List AV):aa T 41 (.ip cs) 1=some (.ip (cs.drop 1)):=rfl
@[simp] theorem FH41_1(l k:Nat):aa T 41 (.hp l k) 1=some (.hp l (k+1)):=rfl
@[simp] theorem FA41_2(cs:List AV):aa T 41 (.ip cs) 2=some (.ip (cs.drop 2)):=rfl
@[simp] theorem FH41_2(l k:Nat):aa T 41 (.hp l k) 2=some (.hp l (k+2)):=rfl
@[simp] theorem FA41_3(cs:List AV):aa T 41 (.ip cs) 3=some (.ip (cs.drop 3)):=rfl
@[simp] theorem FH41_3(l k:Nat):aa T 41 (.hp l k) 3=some (.hp l (k+3)):=rfl
@[simp] theorem FA41_4(cs:List AV):aa T 41 (.ip cs) 4=some (.ip (cs.drop 4)):=rfl
@[simp] theorem FH41_4(l k:Nat):aa T 41 (.hp l k) 4=some (.hp l (k+4)):=rfl
@[simp] theorem FA41_5(cs:List AV):aa T 41 (.ip cs) 5=some (.ip (cs.drop 5)):=rfl
@[simp] theorem FH41_5(l k:Nat):aa T 41 (.hp l k) 5=some (.hp l (k+5)):=rfl
@[simp] theorem FA41_6(cs:List AV):aa T 41 (.ip cs) 6=some (.ip (cs.drop 6)):=rfl
@[simp] theorem FH41_6(l k:Nat):aa T 41 (.hp l k) 6=some (.hp l (k+6)):=rfl
@[simp] theorem FA47_0(cs:List AV):aa T 47 (.ip cs) 0=some (.ip (cs.drop 0)):=rfl
@[simp] theorem FH47_0(l k:Nat):aa T 47 (.hp l k) 0=some (.hp l (k+0)):=rfl
@[simp] theorem FA47_1(cs:List AV):aa T 47 (.ip cs) 1=some (.ip (cs.drop 1)):=rfl
@[simp] theorem FH47_1(l k:Nat):aa T 47 (.hp l k) 1=some (.hp l (k+1)):=rfl
@[simp] theorem FA47_2(cs:List AV):aa T 47 (.ip cs) 2=some (.ip (cs.drop 2)):=rfl
@[simp] theorem FH47_2(l k:Nat):aa T 47 (.hp l k) 2=some (.hp l (k+2)):=rfl
@[simp] theorem FA47_3(cs:List AV):aa T 47 (.ip cs) 3=some (.ip (cs.drop 3)):=rfl
@[simp] theorem FH47_3(l k:Nat):aa T 47 (.hp l k) 3=some (.hp l (k+3)):=rfl
@[simp] theorem FA47_4(cs:List AV):aa T 47 (.ip cs) 4=some (.ip (cs.drop 4)):=rfl
@[simp] theorem FH47_4(l k:Nat):aa T 47 (.hp l k) 4=some (.hp l (k+4)):=rfl
@[simp] theorem FA47_5(cs:List AV):aa T 47 (.ip cs) 5=some (.ip (cs.drop 5)):=rfl
@[simp] theorem FH47_5(l k:Nat):aa T 47 (.hp l k) 5=some (.hp l (k+5)):=rfl
@[simp] theorem FA56_0(cs:List AV):aa T 56 (.ip cs) 0=some (.ip (cs.drop 0)):=rfl
@[simp] theorem FH56_0(l k:Nat):aa T 56 (.hp l k) 0=some (.hp l (k+0)):=rfl
@[simp] theorem FA56_1(cs:List AV):aa T 56 (.ip cs) 1=some (.ip (cs.drop 1)):=rfl
@[simp] theorem FH56_1(l k:Nat):aa T 56 (.hp l k) 1=some (.hp l (k+1)):=rfl
@[simp] theorem FA56_2(cs:List AV):aa T 56 (.ip cs) 2=some (.ip (cs.drop 2)):=rfl
@[simp] theorem FH56_2(l k:Nat):aa T 56 (.hp l k) 2=some (.hp l (k+2)):=rfl
@[simp] theorem FA56_3(cs:List AV):aa T 56 (.ip cs) 3=some (.ip (cs.drop 4)):=rfl
@[simp] theorem FH56_3(l k:Nat):aa T 56 (.hp l k) 3=some (.hp l (k+4)):=rfl
@[simp] theorem FA73_0(cs:List AV):aa T 73 (.ip cs) 0=some (.ip (cs.drop 0)):=rfl
@[simp] theorem FH73_0(l k:Nat):aa T 73 (.hp l k) 0=some (.hp l (k+0)):=rfl
@[simp] theorem FA73_1(cs:List AV):aa T 73 (.ip cs) 1=some (.ip (cs.drop 1)):=rfl
@[simp] theorem FH73_1(l k:Nat):aa T 73 (.hp l k) 1=some (.hp l (k+1)):=rfl
@[simp] theorem FA73_2(cs:List AV):aa T 73 (.ip cs) 2=some (.ip (cs.drop 2)):=rfl
@[simp] theorem FH73_2(l k:Nat):aa T 73 (.hp l k) 2=some (.hp l (k+2)):=rfl
@[simp] theorem FA73_3(cs:List AV):aa T 73 (.ip cs) 3=some (.ip (cs.drop 3)):=rfl
@[simp] theorem FH73_3(l k:Nat):aa T 73 (.hp l k) 3=some (.hp l (k+3)):=rfl
@[simp] theorem FA73_4(cs:List AV):aa T 73 (.ip cs) 4=some (.ip (cs.drop 5)):=rfl
@[simp] theorem FH73_4(l k:Nat):aa T 73 (.hp l k) 4=some (.hp l (k+5)):=rfl
@[simp] theorem FA73_5(cs:List AV):aa T 73 (.ip cs) 5=some (.ip (cs.drop 6)):=rfl
@[simp] theorem FH73_5(l k:Nat):aa T 73 (.hp l k) 5=some (.hp l (k+6)):=rfl
@[simp] theorem FA76_0(cs:List AV):aa T 76 (.ip cs) 0=some (.ip (cs.drop 0)):=rfl
@[simp] theorem FH76_0(l k:Nat):aa T 76 (.hp l k) 0=some (.hp l (k+0)):=rfl
@[simp] theorem FA76_1(cs:List AV):aa T 76 (.ip cs) 1=some (.ip (cs.drop 1)):=rfl
@[simp] theorem FH76_1(l k:Nat):aa T 76 (.hp l k) 1=some (.hp l (k+1)):=rfl
@[simp] theorem FA104_1(cs:List AV):aa T 104 (.ip cs) 1=some (.ip (cs.drop 1)):=rfl
@[simp] theorem FH104_1(l k:Nat):aa T 104 (.hp l k) 1=some (.hp l (k+1)):=rfl
@[simp] theorem FA149_0(cs:List AV):aa T 149 (.ip cs) 0=some (.ip (cs.drop 0)):=rfl
@[simp] theorem FH149_0(l k:Nat):aa T 149 (.hp l k) 0=some (.hp l (k+0)):=rfl
@[simp] theorem FA149_1(cs:List AV):aa T 149 (.ip cs) 1=some (.ip (cs.drop 2)):=rfl
@[simp] theorem FH149_1(l k:Nat):aa T 149 (.hp l k) 1=some (.hp l (k+2)):=rfl
@[simp] theorem FA225_0(cs:List AV):aa T 225 (.ip cs) 0=some (.ip (cs.drop 0)):=rfl
@[simp] theorem FH225_0(l k:Nat):aa T 225 (.hp l k) 0=some (.hp l (k+0)):=rfl
@[simp] theorem FA225_1(cs:List AV):aa T 225 (.ip cs) 1=some (.ip (cs.drop 1)):=rfl
@[simp] theorem FH225_1(l k:Nat):aa T 225 (.hp l k) 1=some (.hp l (k+1)):=rfl
@[simp] theorem FA225_2(cs:List AV):aa T 225 (.ip cs) 2=some (.ip (cs.drop 2)):=rfl
@[simp] theorem FH225_2(l k:Nat):aa T 225 (.hp l k) 2=some (.hp l (k+2)):=rfl
@[simp] theorem LD3(x:AV)(l:List AV):aj T 3 (.ip (x:: l))=some x:=rfl
@[simp] theorem LD4(x:AV)(l:List AV):aj T 4 (.ip (x:: l))=some x:=rfl
@[simp] theorem LD9(x:AV)(l:List AV):aj T 9 (.ip (x:: l))=some x:=rfl
@[simp] theorem LD22(x:AV)(l:List AV):aj T 22 (.ip (x:: l))=some x:=rfl
@[simp] theorem LD24(cs:List AV):aj T 24 (.ip cs)=if 2<=cs.length then some (.agg (cs.take 2))else none:=rfl
@[simp] theorem LD25(x:AV)(l:List AV):aj T 25 (.ip (x:: l))=some x:=rfl
@[simp] theorem LD27(cs:List AV):aj T 27 (.ip cs)=if 2<=cs.length then some (.agg (cs.take 2))else none:=rfl
@[simp] theorem LD29(cs:List AV):aj T 29 (.ip cs)=if 3<=cs.length then some (.agg (cs.take 3))else none:=rfl
@[simp] theorem LD35(x:AV)(l:List AV):aj T 35 (.ip (x:: l))=some x:=rfl
@[simp] theorem LD36(x:AV)(l:List AV):aj T 36 (.ip (x:: l))=some x:=rfl
@[simp] theorem LD37(x:AV)(l:List AV):aj T 37 (.ip (x:: l))=some x:=rfl
@[simp] theorem LD41(cs:List AV):aj T 41 (.ip cs)=if 9<=cs.length then some (.agg (cs.take 9))else none:=rfl
@[simp] theorem LD47(cs:List AV):aj T 47 (.ip cs)=if 6<=cs.length then some (.agg (cs.take 6))else none:=rfl
@[simp] theorem LD54(x:AV)(l:List AV):aj T 54 (.ip (x:: l))=some x:=rfl
@[simp] theorem LD56(cs:List AV):aj T 56 (.ip cs)=if 5<=cs.length then some (.agg (cs.take 5))else none:=rfl
@[simp] theorem LD73(cs:List AV):aj T 73 (.ip cs)=if 12<=cs.length then some (.agg (cs.take 12))else none:=rfl
@[simp] theorem LD76(cs:List AV):aj T 76 (.ip cs)=if 3<=cs.length then some (.agg (cs.take 3))else none:=rfl
@[simp] theorem LD102(x:AV)(l:List AV):aj T 102 (.ip (x:: l))=some x:=rfl
@[simp] theorem LD225(cs:List AV):aj T 225 (.ip cs)=if 3<=cs.length then some (.agg (cs.take 3))else none:=rfl
@[simp] theorem Dj(s:bI):aO T 9 (.str s)=some (.int .i64 s.length):=rfl
@[simp] theorem BF(es:List AV):aO T 22 (.sl es)=some (.int .i64 es.length):=rfl
@[simp] theorem Dq:aO T 22 .hn=some (.int .i64 0):=rfl
@[simp] theorem Dm(l k n s:Nat)(a:Bool):aO T 22 (.hs l k n s a)=some (.int .i64 n):=rfl
@[simp] theorem Dk(l:List Sig):aO T 22 (sigs l)=some (.int .i64 l.length):=(BF _).trans (by simp)
@[simp] theorem yO(es:List AV):aO T 25 (.sl es)=some (.int .i64 es.length):=rfl
@[simp] theorem Ds:aO T 25 .hn=some (.int .i64 0):=rfl
@[simp] theorem zA(l k n s:Nat)(a:Bool):aO T 25 (.hs l k n s a)=some (.int .i64 n):=rfl
@[simp] theorem uP(l:List dV):aO T 25 (aQ l)=some (.int .i64 l.length):=(yO _).trans (by simp[cC])
@[simp] theorem BG(es:List AV):aO T 35 (.sl es)=some (.int .i64 es.length):=rfl
@[simp] theorem Dt:aO T 35 .hn=some (.int .i64 0):=rfl
@[simp] theorem Dn(l k n s:Nat)(a:Bool):aO T 35 (.hs l k n s a)=some (.int .i64 n):=rfl
@[simp] theorem zw(l:List bI):aO T 35 (strs l)=some (.int .i64 l.length):=(BG _).trans (by simp)
@[simp] theorem BH(es:List AV):aO T 36 (.sl es)=some (.int .i64 es.length):=rfl
@[simp] theorem Du:aO T 36 .hn=some (.int .i64 0):=rfl
@[simp] theorem Do(l k n s:Nat)(a:Bool):aO T 36 (.hs l k n s a)=some (.int .i64 n):=rfl
@[simp] theorem zx(l:List Exp):aO T 36 (ci l)=some (.int .i64 l.length):=(BH _).trans (by simp[fm])
@[simp] theorem BI(es:List AV):aO T 37 (.sl es)=some (.int .i64 es.length):=rfl
@[simp] theorem Dv:aO T 37 .hn=some (.int .i64 0):=rfl
@[simp] theorem Dp(l k n s:Nat)(a:Bool):aO T 37 (.hs l k n s a)=some (.int .i64 n):=rfl
@[simp] theorem zy(l:List Fun):aO T 37 (bK l)=some (.int .i64 l.length):=(BI _).trans (by simp)
@[simp] theorem yP(es:List AV):aO T 54 (.sl es)=some (.int .i64 es.length):=rfl
@[simp] theorem Dw:aO T 54 .hn=some (.int .i64 0):=rfl
@[simp] theorem zB(l k n s:Nat)(a:Bool):aO T 54 (.hs l k n s a)=some (.int .i64 n):=rfl
@[simp] theorem Dl(l:List Ty):aO T 54 (jN l)=some (.int .i64 l.length):=(yP _).trans (by simp)
@[simp] theorem Dh(es:List AV):aO T 102 (.sl es)=some (.int .i64 es.length):=rfl
@[simp] theorem CZ:aO T 102 .hn=some (.int .i64 0):=rfl
@[simp] theorem CW(l k n s:Nat)(a:Bool):aO T 102 (.hs l k n s a)=some (.int .i64 n):=rfl
@[simp] theorem zv(es:List AV):aO T 196 (.sl es)=some (.int .i64 es.length):=rfl
@[simp] theorem C0:aO T 196 .hn=some (.int .i64 0):=rfl
@[simp] theorem CX(l k n s:Nat)(a:Bool):aO T 196 (.hs l k n s a)=some (.int .i64 n):=rfl
@[simp] theorem CV(l:List Int):aO T 196 (ints l)=some (.int .i64 l.length):=(zv _).trans (by simp)
@[simp] theorem Di(es:List AV):aO T 222 (.sl es)=some (.int .i64 es.length):=rfl
@[simp] theorem C1:aO T 222 .hn=some (.int .i64 0):=rfl
@[simp] theorem CY(l k n s:Nat)(a:Bool):aO T 222 (.hs l k n s a)=some (.int .i64 n):=rfl
def uL{l:List Sig}{n:Int}(h0:0<=n)(h:n<(l.length:Int)):ap T 22 (sigs l) (.int .i64 n)=some (.ip (ab (Sig.av l[n.toNat]!))):=cJ (T:=T) (t:=22) (e:=56) rfl rfl rfl (fun _=>by first|rfl|(simp;done)|(simp;rfl)) h0 h
def pM{l:List dV}{n:Int}(h0:0<=n)(h:n<(l.length:Int)):ap T 25 (aQ l) (.int .i64 n)=some (.ip (ab (bb l[n.toNat]!))):=by rw[aQ,cC];exact cJ (T:=T) (t:=25) (e:=76) rfl rfl rfl (fun _=>by first|rfl|(simp;done)|(simp;rfl)) h0 h
def uM{l:List bI}{n:Int}(h0:0<=n)(h:n<(l.length:Int)):ap T 35 (strs l) (.int .i64 n)=some (.ip (ab (AV.str l[n.toNat]!))):=cJ (T:=T) (t:=35) (e:=9) rfl rfl rfl (fun _=>by first|rfl|(simp;done)|(simp;rfl)) h0 h
def uN{l:List Exp}{n:Int}(h0:0<=n)(h:n<(l.length:Int)):ap T 36 (ci l) (.int .i64 n)=some (.ip (ab (Exp.av l[n.toNat]!))):=by rw[ci,fm];exact cJ (T:=T) (t:=36) (e:=47) rfl rfl rfl (fun _=>by first|rfl|(simp;done)|(simp;rfl)) h0 h
def uO{l:List Fun}{n:Int}(h0:0<=n)(h:n<(l.length:Int)):ap T 37 (bK l) (.int .i64 n)=some (.ip (ab (Fun.av l[n.toNat]!))):=cJ (T:=T) (t:=37) (e:=73) rfl rfl rfl (fun _=>by first|rfl|(simp;done)|(simp;rfl)) h0 h
def zt{l:List Ty}{n:Int}(h0:0<=n)(h:n<(l.length:Int)):ap T 54 (jN l) (.int .i64 n)=some (.ip (ab (Ty.av l[n.toNat]!))):=cJ (T:=T) (t:=54) (e:=27) rfl rfl rfl (fun _=>by first|rfl|(simp;done)|(simp;rfl)) h0 h
def zq{a b:List Fun}(h:(a.length+b.length)*184<=140737488355328):eh T 37 (bK a) (bK b)=some (bK (a++b)):=by
 have:=pR (T:=T) (t:=37) (e:=73) rfl rfl rfl (f:=Fun.av) (fun _=>by first|rfl|(simp;done)|(simp;rfl)) (a:=a) (b:=b) h (by decide)
 simpa [bK]using this
def Dg{a b:List Ty}(h:(a.length+b.length)*32<=140737488355328):eh T 54 (jN a) (jN b)=some (jN (a++b)):=by
 have:=pR (T:=T) (t:=54) (e:=27) rfl rfl rfl (f:=Ty.av) (fun _=>by first|rfl|(simp;done)|(simp;rfl)) (a:=a) (b:=b) h (by decide)
 simpa [jN]using this
end Go.Proofs.YteemeakjlfnapaaGreatDoor
namespace Go.Proofs.YteemeakjlfnapaaGreatDoor.F
open Go Go.Av Go.Av.Ap
set_option maxRecDepth 100000
def Cm(e:AV)(es:List AV):bB (tX Tryz.f163.ntmps oO) (cb 0) Tryz.f163 none [.sl (e:: es)]=af (appH T 25 true (.sl []) (.sl (e:: es))) fun v=>af (ah (some v)) M.pure:=by kernel_rfl
def Cn:bB (tX Tryz.f163.ntmps oO) (cb 0) Tryz.f163 none [.hn]=af (ah (some (.sl []))) M.pure:=by kernel_rfl
def Co(l off:Nat):bB (tX Tryz.f163.ntmps oO) (cb 0) Tryz.f163 none [.hs l off 0 1 false]=af (appH T 25 true (.sl []) (.hs l off 0 1 false)) fun v=>af (ah (some v)) M.pure:=by kernel_rfl
def AY(call:FuncId->List AV->M AV)(args:List AV)(h:Hp)(S:ar)(β:List a6)(w:World)(vs:List Value)(hr:cB T 25 call args h≠.fail)(hg:mU β h w)(hw:Wf S w)(hh:bO S β w h)(hv:aH S β args vs):
  Calls Tryz.prog 163 vs.toArray w (cM none S β h w (cB T 25 call args h)):=by
 have key:∀es,args=[.sl es]->Calls Tryz.prog 163 vs.toArray w (cM none S β h w (cB T 25 call args h)):=by
  rintro es rfl;exact (kC (cx:=tX Tryz.f163.ntmps oO) (E:=fun es h=>cB T 25 call [.sl es] h) tok (nI _ _) (s6 _ _) Tryz.func163 rfl (fun h=>by rfl) (fun e es h=>by rw[Cm];exact congrFun (vO _) h) (fun h=>by rw[Cn];rfl) (fun l off h=>by rw[Co];rfl) hr hg hw hh hv).1
 unfold cB at hr;split at hr
 ·exact key _ rfl
 ·exact absurd rfl hr
def pF:(jJ.map fun x=>Tryz.prog.funcs[x.1]?)=jJ.map fun x=>some x.2.1:=by kernel_rfl
def iV:(jJ.map fun x=>x.2.1.name== "runtime.NumGoroutine")=jJ.map fun _=>false:=by kernel_rfl
def Dx{f k:Nat}{α:Type}{x y:α}{o:Option α}(h:(bif Nat.beq f k then some x else o)=some y):(f=k/\x=y)\/o=some y:=by
 cases hb:Nat.beq f k with
 |true=>rw[hb]at h;exact .inl ⟨Eo hb,by simpa using h⟩
 |false=>rw[hb]at h;exact .inr h
def good:GoodPg Tryz.prog pg where
 tok:=tok
 funcs:=fun f fn a h=>by
  have:=jZ jJ f (fn,a) h
  exact⟨ey pF _ this,ey iV _ this⟩
 other:=by
  intro f E hE call hC args h S β w vs hr hg hw hh hv;have h0:other f=some E:=hE;unfold other at h0;rcases Dx h0 with⟨rfl,rfl⟩|h0
  ·exact⟨AY call args h S β w vs hr hg hw hh hv,by kernel_rfl⟩
  cases h0
 nw:=by
  intro f hf;have h0:(bif Nat.beq f 163 then true else false)=true:=hf;cases hb:Nat.beq f 163 with
  |true=>
   have:=Eo hb
   subst this;exact⟨_,rfl,fun call args=>nH _ _ _ _⟩
  |false=>rw[hb]at h0;cases h0
def bQ{α β:Type}{m:M α}{a:α}{h h':Hp}(e:m h= .ok a h')(f:α->M β):af m f h=f a h':=by simp only[af,e]
def Bd(x:dV):(ab (bb x)).length=3:=by simp
def lV(l:List dV):aQ l= .sl (l.map bb):=by rw[aQ,cC]
def wM{q:Nat}{l:List dV}{i:Nat}{h:Hp}(hi:i<l.length)(hq:h[q]? = some (rowOf bb l)):fI T 76 (.hp q (0+i*3)) h= .ok (bb l[i]) h:=by
 have hlen:=dA (f:=bb) Bd l;rw[oc (T:=T) (t:=76) rfl rfl hq (show 0+i*3+3<=_ by omega)];show R.ok (AV.agg (((rowOf bb l).drop (0+i*3)).take 3)) h=_;rw[ED,dn Bd l i hi,cz,fu]
def xr{q:Nat}{l:List dV}{i:Nat}{h:Hp}(hi:i<l.length)(hq:h[q]? = some (rowOf bb l)):fB T 27 (.hp q (0+i*3+1)) l[i].2.av h= .ok (.tup []) h:=by
 have hlen:=dA (f:=bb) Bd l;refine kX (T:=T) (t:=27) rfl hq (Ap.gm _) (show 0+i*3+1+2<=_ by omega) (by decide) ?_
 have:=dn Bd l i hi
 have h2:((rowOf bb l).drop (0+i*3+1)).take 2=(((rowOf bb l).drop (i*3)).take 3).drop 1:=by
  rw[List.drop_take,GE];congr 2;omega
 rw[ca];show ((rowOf bb l).drop (0+i*3+1)).take 2=_;rw[h2,this,cz];rfl
theorem D3{q n i:Nat}(h:i<n):ap T 25 (.hs q 0 n 3 true) (.int .i64 (i:Int))=some (.hp q (0+i*3)):=by
 have e:ap T 25 (.hs q 0 n 3 true) (.int .i64 (i:Int))=if 0<=(i:Int)/\(i:Int)<(n:Int)then some (.hp q (0+(i:Int).toNat*3))else none:=rfl;rw[e,Es (by omega),Ez]
def yt(t:Ty)(hb:t.fields.length<=4611686018427387904)(hk:∀f∈t.fields,ai pg 104 [f.2.av]=M.pure f.2.av)(q:Nat)(h:Hp)(hq:h[q]? = some (rowOf bb t.fields))(x5 x6:AV):∀(n i:Nat),t.fields.length-i=n->i<=t.fields.length->
  ak (L104_0 (ai pg) ak) [.hs q 0 t.fields.length 3 true,.int .i64 t.fields.length,.int .i64 i,.int .i64 t.kind,.hs q 0 t.fields.length 3 true,x5,x6] h= .ok (.agg [.int .i64 t.kind,.hs q 0 t.fields.length 3 true]) h:=by
 intro n
 induction n with
 |zero=>
  intro i hn hi;rw[FL104_0];have h1:¬((i:Int)<(t.fields.length:Int)):=by omega
  have h2:az 2 [] (.agg [.int .i64 t.kind,.hs q 0 t.fields.length 3 true])=M.pure (.agg [.int .i64 t.kind,.hs q 0 t.fields.length 3 true]):=aP rfl;simp[L104_0,h1,h2,M.pure]
 |succ n ih=>
  intro i hn hi;have hlt:i<t.fields.length:=by omega
  have h1:(i:Int)<(t.fields.length:Int):=by omega
  have ih':=ih (i+1) (by omega) (by omega);have hw:IntKind.i64.wrap ((i:Int)+1)=((i+1:Nat):Int):=aX (by omega);have hc:=hk t.fields[i] (EF hlt);rw[<- ih'];generalize hcode:ak (L104_0 (ai pg) ak) [.hs q 0 t.fields.length 3 true,.int .i64 t.fields.length,.int .i64 i,.int .i64 t.kind,.hs q 0 t.fields.length 3 true,x5,x6] h=code;rw[FL104_0]at hcode;simp -implicitDefEqProofs only[L104_0,aZ,bj,bP,aN,a8,h1,Fu,E4,D3 hlt]at hcode;rw[bQ (wM hlt hq)]at hcode;simp -implicitDefEqProofs only[lD,aT,cz,FA76_1,aN,Fx,EY,LD27,EG,EH,ED,Nat.reduceAdd,En,E4,EX,E5,dv,hc,fy,FH76_1]at hcode;rw[show (i*3+1)=0+i*3+1 by omega]at hcode;rw[bQ (xr hlt hq)]at hcode;simp -implicitDefEqProofs only[eH,aN,hw]at hcode;rw[<- hcode]
theorem t104:∀(d:Nat)(t:Ty),qP d t->ai pg 104 [t.av]=M.pure t.av
 |0,t,h=>h.elim
 | d+1,t,h=>by
  have hlen:t.fields.length<=100:=h.1;have ih:∀f∈t.fields,ai pg 104 [f.2.av]=M.pure f.2.av:=fun f hf=>t104 d f.2 (h.2 f hf);have e0:ai pg 163 [aQ t.fields]=cB T 25 (ai pg) [aQ t.fields]:=dS hOther rfl _;have e1:=lH (T:=T) (t:=25) (f:=bb) (sz:=3) rfl rfl rfl rfl rfl (by decide) (by decide) (fun x=>gZ x) (ai pg) t.fields (show t.fields.length*48<=140737488355328 by omega) [];rw[<- lV,<- e0]at e1;rw[C104];funext hp;show aE _ hp=R.ok t.av hp;by_cases hf:t.fields=[]
  ·rw[Es hf]at e1;have e2:az 2 [] (.agg [.int .i64 t.kind,.sl []])=M.pure (.agg [.int .i64 t.kind,.sl []]):=aP rfl;have key:S104 (ai pg) ak (cl ax t.av) []= .ok (.agg [.int .i64 t.kind,.sl []]) []:=by
    simp only[S104,kB,jS,aT,ca,aZ,bj];rw[bQ e1];simp only[bm,aL,El,aN,yO];rw[FL104_0];simp[L104_0,e2,M.pure]
   unfold aE;rw[key];have:(AV.agg [.int .i64 t.kind,.sl []])=t.av:=by rw[<- dv,hf];rfl
   rw[this];simp only[R.ok.injEq,Hg];exact (Clean.frz (fun g=>kB g t) 6 [])
  ·rw[if_neg hf]at e1;have hq:([]++[rowOf bb t.fields]:Hp)[0]? = some (rowOf bb t.fields):=rfl;have key:S104 (ai pg) ak (cl ax t.av) []= .ok (.agg [.int .i64 t.kind,.hs 0 0 t.fields.length 3 true]) ([]++[rowOf bb t.fields]):=by
    simp only[S104,kB,jS,aT,ca,aZ,bj];rw[bQ e1];simp only[bm,aL,El,aN,zA,EH];exact yt t (by omega) ih 0 _ hq _ _ t.fields.length 0 rfl (by omega)
   unfold aE;rw[key];have hfr:=j9 (f:=bb) Bd (fun x=>by rw[cz,fu]) (fun x g=>Aj g x) (by decide) hq 5;have:gH 6 ([]++[rowOf bb t.fields]) (.agg [.int .i64 t.kind,.hs 0 0 t.fields.length 3 true])=t.av:=by
    rw[<- dv,lV,<- hfr];rfl
   show R.ok (gH 6 _ _) hp=_;rw[this]
end Go.Proofs.YteemeakjlfnapaaGreatDoor.F
namespace Go.Proofs.YteemeakjlfnapaaGreatDoor
open Go Go.Av Go.Av.Ap
def AQ(call:FuncId->List AV->M AV)(args:List AV)(h:Hp)(S:ar)(β:List a6)(w:World)(vs:List Value)(hr:ic call args h≠.fail)(hg:mU β h w)(hw:Wf S w)(hh:bO S β w h)(hv:aH S β args vs):
  Calls Tryz.prog 104 vs.toArray w (cM none S β h w (ic call args h)):=by
 unfold ic at hr |-;split at hr
 ·rename_i v;cases hc:yN 5 v with
  |false=>rw[hc]at hr;exact absurd rfl hr
  |true=>
   obtain⟨t,rfl,ht⟩:=rp 5 v hc;have e:=congrFun (F.t104 5 t ht) h
   have:=(gO F.good F.hOther 104 [t.av] h S β w vs (by rw[e];simp[M.pure]) hg hw hh hv).1
   rw[e]at this;exact this
 ·exact absurd rfl hr
theorem oe:∀(d:Nat)(t:Ty),cD d t=true->qP d t
 |0,t,h=>by cases h
 |d+1,t,h=>by
  rw[eT]at h;simp only[Em,Ew,Et]at h;exact⟨by have:=h.1.1.2;omega,fun f hf=>oe d f.2 (h.2.1 f hf).2⟩
end Go.Proofs.YteemeakjlfnapaaGreatDoor
namespace Go.Proofs
open Go.Shelf
def D9:Go.Shelf.Ren:=⟨fun|6=>107|15=>168|14=>167|28=>222|29=>223|20=>214|21=>215|22=>216|23=>217|24=>218|25=>219|26=>220|27=>221|46=>246|47=>247|48=>248|49=>249|50=>250|57=>273|n=>n,fun|22=>22|24=>56|25=>126|3=>3|39=>175|0=>0|53=>212|55=>214|4=>4|46=>205|45=>204|50=>209|5=>5|9=>9|66=>234|70=>238|76=>260|77=>261|n=>n,fun|n=>n⟩
def D7:Go.Proofs.SlLaysF0.n6 Tryz.prog D9:={
 mixed:=by kernel_rfl
 f6:=⟨Tryz.f107.name,by decide,Tryz.func107.trans (Er some (by kernel_rfl))⟩
 f14:=⟨Tryz.f167.name,by decide,Tryz.func167.trans (Er some (by kernel_rfl))⟩
 f15:=Tryz.func168.trans (Er some (by kernel_rfl))
 f20:=⟨Tryz.f214.name,by decide,Tryz.func214.trans (Er some (by kernel_rfl))⟩
 f21:=⟨Tryz.f215.name,by decide,Tryz.func215.trans (Er some (by kernel_rfl))⟩
 f22:=⟨Tryz.f216.name,by decide,Tryz.func216.trans (Er some (by kernel_rfl))⟩
 f23:=⟨Tryz.f217.name,by decide,Tryz.func217.trans (Er some (by kernel_rfl))⟩
 f24:=⟨Tryz.f218.name,by decide,Tryz.func218.trans (Er some (by kernel_rfl))⟩
 f25:=⟨Tryz.f219.name,by decide,Tryz.func219.trans (Er some (by kernel_rfl))⟩
 f26:=⟨Tryz.f220.name,by decide,Tryz.func220.trans (Er some (by kernel_rfl))⟩
 f27:=⟨Tryz.f221.name,by decide,Tryz.func221.trans (Er some (by kernel_rfl))⟩
 f28:=Tryz.func222.trans (Er some (by kernel_rfl))
 f29:=Tryz.func223.trans (Er some (by kernel_rfl))
 f46:=⟨Tryz.f246.name,by decide,Tryz.func246.trans (Er some (by kernel_rfl))⟩
 f47:=Tryz.func247.trans (Er some (by kernel_rfl))
 f48:=Tryz.func248.trans (Er some (by kernel_rfl))
 f49:=⟨Tryz.f249.name,by decide,Tryz.func249.trans (Er some (by kernel_rfl))⟩
 f50:=⟨Tryz.f250.name,by decide,Tryz.func250.trans (Er some (by kernel_rfl))⟩
 f57:=⟨Tryz.f273.name,by decide,Tryz.func273.trans (Er some (by kernel_rfl))⟩
 t0:=Tryz.underlying0
 a0:=Tryz.isAgg0
 z0:=Tryz.sizeOf0
 v0:=Tryz.zeroValue0
 t3:=Tryz.underlying3
 a3:=Tryz.isAgg3
 z3:=Tryz.sizeOf3
 v3:=Tryz.zeroValue3
 t4:=Tryz.underlying4
 a4:=Tryz.isAgg4
 z4:=Tryz.sizeOf4
 v4:=Tryz.zeroValue4
 t5:=Tryz.underlying5
 a5:=Tryz.isAgg5
 z5:=Tryz.sizeOf5
 v5:=Tryz.zeroValue5
 t9:=Tryz.underlying9
 a9:=Tryz.isAgg9
 z9:=Tryz.sizeOf9
 v9:=Tryz.zeroValue9
 t22:=Tryz.underlying22
 a22:=Tryz.isAgg22
 z22:=Tryz.sizeOf22
 v22:=Tryz.zeroValue22
 t25:=Tryz.underlying126
 a25:=Tryz.isAgg126
 z25:=Tryz.sizeOf126
 v25:=Tryz.zeroValue126
 t39:=Tryz.underlying175
 a39:=Tryz.isAgg175
 z39:=Tryz.sizeOf175
 v39:=Tryz.zeroValue175
 t45:=Tryz.underlying204
 a45:=Tryz.isAgg204
 z45:=Tryz.sizeOf204
 v45:=Tryz.zeroValue204
 t46:=Tryz.underlying205
 a46:=Tryz.isAgg205
 z46:=Tryz.sizeOf205
 v46:=Tryz.zeroValue205
 t50:=Tryz.underlying209
 a50:=Tryz.isAgg209
 z50:=Tryz.sizeOf209
 v50:=Tryz.zeroValue209
 t53:=Tryz.underlying212
 a53:=Tryz.isAgg212
 z53:=Tryz.sizeOf212
 v53:=Tryz.zeroValue212
 t55:=Tryz.underlying214
 a55:=Tryz.isAgg214
 z55:=Tryz.sizeOf214
 v55:=Tryz.zeroValue214
 t66:=Tryz.underlying234
 a66:=Tryz.isAgg234
 z66:=Tryz.sizeOf234
 v66:=Tryz.zeroValue234
 t70:=Tryz.underlying238
 a70:=Tryz.isAgg238
 z70:=Tryz.sizeOf238
 v70:=Tryz.zeroValue238
 t76:=Tryz.underlying260
 a76:=Tryz.isAgg260
 z76:=Tryz.sizeOf260
 v76:=Tryz.zeroValue260
 t77:=Tryz.underlying261
 a77:=Tryz.isAgg261
 z77:=Tryz.sizeOf261
 v77:=Tryz.zeroValue261 }
end Go.Proofs
namespace Go.Proofs.YteemeakjlfnapaaGreatDoor.D
open Go Go.Av Go.Av.Ap
set_option maxRecDepth 100000
noncomputable def pg:Pg:={ T:=T,funcs:=nM jJ,own:=own,other:=fun _=>none }
def hOther:cH pg:=fun f E h=>by cases h
def E169(call:FuncId->List AV->M AV)(fx:bU AV)(a0:AV):bB (pg.cx call Tryz.f169.ntmps rC) fx Tryz.f169 (own 169) [a0]=S169 call fx a0:=by kernel_rfl
def C169(a0:AV):ai pg 169 [a0]=aE (S169 (ai pg) ak (cl ax a0)):=(aw hOther rfl rfl rfl _).trans (Er aE (E169 _ _ (cl ax a0)))
def E109(call:FuncId->List AV->M AV)(fx:bU AV)(a0 a1:AV):bB (pg.cx call Tryz.f109.ntmps rB) fx Tryz.f109 (own 109) [a0,a1]=S109 call fx a0 a1:=by kernel_rfl
def C109(a0 a1:AV):ai pg 109 [a0,a1]=aE (S109 (ai pg) ak (cl ax a0) (cl ax a1)):=(aw hOther rfl rfl rfl _).trans (Er aE (E109 _ _ (cl ax a0) (cl ax a1)))
def E108(call:FuncId->List AV->M AV)(fx:bU AV)(a0 a1:AV):bB (pg.cx call Tryz.f108.ntmps rA) fx Tryz.f108 (own 108) [a0,a1]=S108 call fx a0 a1:=by kernel_rfl
def C108(a0 a1:AV):ai pg 108 [a0,a1]=aE (S108 (ai pg) ak (cl ax a0) (cl ax a1)):=(aw hOther rfl rfl rfl _).trans (Er aE (E108 _ _ (cl ax a0) (cl ax a1)))
@[simp] theorem Dd(t:Nat)(a b:bI):au T .gtr t (.str a) (.str b)=some (.bool !(aC a b||a== b)):=rfl
theorem t169(s:bI):ai pg 169 [.str s]=M.pure (.bool false):=by
 rw[C169];have e:au T .neq 9 (.str s) (.str s)=some (.bool !(s== s)):=rfl;simp[S169,e]
def t109(a b:bI):ai pg 109 [.str a,.str b]=M.pure (.int .i64 (rT a b)):=by
 rw[C109];unfold rT;cases h1:aC a b with
 |true=>simp[S109,t169,h1]
 | false=>
  by_cases h2:a=b
  ·subst h2;simp[S109,t169,bA]
  ·have h3:=cY a b h1 h2;have h4:(a== b)=false:=Fh.2 h2;simp[S109,t169,h1,h3,h2]
def t108(a b:bI)(x1 x2 x3 x4 y1 y2 y3 y4:AV):ai pg 108 [.agg [.str a,x1,x2,x3,x4],.agg [.str b,y1,y2,y3,y4]]=M.pure (.int .i64 (rT a b)):=by
 rw[C108];have f0:∀cs,aa T 56 (.ip cs) 0=some (.ip (cs.drop 0)):=fun cs=>rfl;have l0:∀(s:bI)(cs:List AV),aj T 9 (.ip (.str s:: cs))=some (.str s):=fun s cs=>rfl;simp[S108,cl,dD,ab,f0,l0,t109]
def good:@GoodPg ⟨True⟩ Tryz.prog pg:=by
 letI:Dr:=⟨True⟩
 exact⟨tok,qx,(fun f E h=>by cases h),(fun f h=>by cases h)⟩
end Go.Proofs.YteemeakjlfnapaaGreatDoor.D
namespace Go.Proofs.YteemeakjlfnapaaGreatDoor
open Go Go.Av Go.Av.Ap Go.RowKit Go.Sort
set_option maxRecDepth 1000000
def DU(keys:List bI)(n:Nat):SWO (ltOf (xE keys n)):=by
 have h:∀i j,ltOf (xE keys n) i j=aC keys[i % n]! keys[j % n]!:=fun i j=>by
  unfold ltOf xE rT;cases h1:aC keys[i % n]! keys[j % n]! with
  |true=>simp
  |false=>
   cases h2:aC keys[j % n]! keys[i % n]! <;> simp
 refine⟨fun x=>?_,fun x y z=>?_,fun x y z=>?_⟩
 ·rw[h,bA]
 ·rw[h,h,h];exact b9 _ _ _
 ·rw[h,h,h];intro h1 h2;cases h3:aC keys[x % n]! keys[z % n]! with
  |false=>rfl
  | true=>
   exfalso;by_cases e:keys[x % n]! = keys[y % n]!
   ·rw[e,h2]at h3;cases h3
   ·have:=b9 _ _ _ (cY _ _ h1 e) h3
    rw[this]at h2;cases h2
def ug{ev:Nat->List Value}{k:Nat}{w:World}(hg:GOKw w){blk off n:Nat}{d:Array Nat}{os:Array Obj}(hb:gN<=blk):GOKw (sortWorldK ev k w blk off n d os):=
 hg.mono fun b hlt=>mM ev k off n d os (EW hlt hg.lt) (by omega)
def t7:∀args w,(callFunc 108 args).run Tryz.prog w= .ok (.enter 108 args) w:=enters_of Tryz.func108 (by kernel_rfl) rfl
def An(a b:bI)(u v:List Value)(hu:∃(x:ByteArray)(r:List Value),u= .string x:: r/\x.data.toList=a)(hv:∃(x:ByteArray)(r:List Value),v= .string x:: r/\x.data.toList=b)(lu:u.length=5)(lv:v.length=5)(W:World)(hg:GOKw W):
  Calls Tryz.prog 108 #[.agg u.toArray,.agg v.toArray] W fun e w'=>e= .returned (.int .i64 (rT a b))/\∃q os',w'=grow (W.drewN q) os':=by
 letI:Dr:=⟨True⟩
 have hs:∀(s:bI)(u:List Value),(∃(x:ByteArray)(r:List Value),u= .string x:: r/\x.data.toList=s)->u.length=5->VR (gG W) [] (.agg [.str s,.any,.any,.any,.any]) (.agg u.toArray):=by
  rintro s u ⟨x,r,rfl,hx⟩ hl;obtain⟨r1,r2,r3,r4,rfl⟩:∃r1 r2 r3 r4,r=[r1,r2,r3,r4]:=by
   match r,hl with
   |[r1,r2,r3,r4],_=>exact⟨r1,r2,r3,r4,rfl⟩
  simp only[VR];refine⟨_,rfl,?_⟩;simp only[aH,VR];exact⟨_,_,rfl,⟨x,rfl,hx⟩,_,_,rfl,trivial,_,_,rfl,trivial,_,_,rfl,trivial,_,_,rfl,trivial,rfl⟩
 have hv2:aH (gG W) [] [.agg [.str a,.any,.any,.any,.any],.agg [.str b,.any,.any,.any,.any]] [.agg u.toArray,.agg v.toArray]:=by
  simp only[aH];exact⟨_,_,rfl,hs a u hu lu,_,_,rfl,hs b v hv lv,rfl⟩
 have h:=(gO D.good D.hOther 108 [.agg [.str a,.any,.any,.any,.any],.agg [.str b,.any,.any,.any,.any]] [] (gG W) [] W _ (by rw[D.t108];simp[M.pure]) ⟨hg,fun b _ ho=>by obtain⟨l,_,_,h1,_⟩:=ho;simp at h1⟩ (fun _ _ _ h=>h) ⟨rfl,fun _=>.no,fun l cs hl=>by simp at hl⟩ hv2).1;rw[D.t108]at h;refine h.mono fun e w' hp=>?_;obtain⟨S',β',v,rfl,hv,L,_⟩:=hp;simp only[VR]at hv;subst hv;exact⟨rfl,L.grew trivial⟩
def BK:∀w,(isAgg 56).run Tryz.prog w= .ok true w:=fun w=>by kernel_rfl
def A8:∀w,(Go.sizeOf 56).run Tryz.prog w= .ok 5 w:=fun w=>by kernel_rfl
def ri(w:World)(blk off cap:Nat)(keys:List bI)(ev:Nat->List Value)(_h0:0<keys.length)(hl:∀i,(ev i).length=5)(h1:∀i,∀v∈ev i,v.oneCell'=true)(hk:∀i,∃(x:ByteArray)(r:List Value),ev i= .string x:: r/\x.data.toList=keys[i % keys.length]!)(hg:GOKw w)(hb:gN<=blk)(hH:HoldsK ev 5 w blk off (Array.range keys.length))(hlt:blk<w.heap.size)(hsz:keys.length<4611686018427387904):
  Calls Tryz.prog 107 #[.slice (some ⟨blk,off,none⟩) keys.length cap,.func (.func 108) #[] #[]] w fun e w'=>e= .returned (.tuple #[])/\∃n os,w'=sortWorldK ev 5 w blk off n (dU keys).toArray os:=by
 have:=AnyQ.slices_SortFunc_eq D7 5 BK A8 ev hl h1 (xE keys keys.length) (DU keys keys.length) 108 #[] blk off cap (Array.range keys.length) w t7
  (fun m os dk _ x y=>An _ _ _ _ (hk x) (hk y) (hl x) (hl y) _ (ug hg hb)) hH hlt (by simpa using hsz)
 rw[Array.size_range]at this;refine this.mono ?_;rintro e w' ⟨he,n,os,hw⟩;refine⟨he,n,os,?_⟩;rw[hw];unfold dU;simp
def AR(call:FuncId->List AV->M AV)(args:List AV)(h:Hp)(S:ar)(β:List a6)(w:World)(vs:List Value)(hr:eq 5 108 call args h≠.fail)(hg:mU β h w)(hw:Wf S w)(hh:bO S β w h)(hv:aH S β args vs):
  Calls Tryz.prog 107 vs.toArray w (cM none S β h w (eq 5 108 call args h)):=by
 have h0:=hr;unfold eq at hr;split at hr
 ·rename_i g';cases hb:Nat.beq g' 108 with
  |false=>rw[hb]at hr;exact absurd rfl hr
  |true=>
   have e:eq 5 108 call [.sl [],.fn (.func g') [] []] h= .ok (.tup []) h:=by simp only[eq,hb,El]
   rw[e];simp only[aH,VR,EH]at hv;obtain⟨_,_,rfl,⟨a,cap,rfl,_⟩,v,_,rfl,_,rfl⟩:=hv;refine (AnyF.slices_SortFunc_none D7 a cap v w).mono ?_;rintro e' w' ⟨rfl,rfl⟩;exact dl hw hh (Below.refl _ _) qT (by simp only[VR,aH];exact⟨[],rfl,rfl⟩)
 ·rename_i g';cases hb:Nat.beq g' 108 with
  |false=>rw[hb]at hr;exact absurd rfl hr
  |true=>
   have e:eq 5 108 call [.hn,.fn (.func g') [] []] h= .ok (.tup []) h:=by simp only[eq,hb,El]
   rw[e];simp only[aH,VR]at hv;obtain⟨_,_,rfl,rfl,v,_,rfl,_,rfl⟩:=hv;refine (AnyF.slices_SortFunc_none D7 none 0 v w).mono ?_;rintro e' w' ⟨rfl,rfl⟩;exact dl hw hh (Below.refl _ _) qT (by simp only[VR,aH];exact⟨[],rfl,rfl⟩)
 ·exact wA call ri h0 hg hw hh hv
 ·exact absurd rfl hr
end Go.Proofs.YteemeakjlfnapaaGreatDoor
namespace Go.Proofs.YteemeakjlfnapaaGreatDoor
open Go Go.Av Go.RowKit
set_option maxRecDepth 100000
def Dy{α:Type}{f k:Nat}{x:α}{o:Option α}{y:α}(h:(bif Nat.beq f k then some x else o)=some y):(f=k/\x=y)\/o=some y:=by
 cases hb:Nat.beq f k with
 |true=>rw[hb]at h;exact .inl ⟨Eo hb,by simpa using h⟩
 |false=>rw[hb]at h;exact .inr h
def vL{α:Type}{f k:Nat}{x y:α}{o:Option α}{P:Prop}(h1:f=k->x=y->P)(h2:o=some y->P)(h:(bif Nat.beq f k then some x else o)=some y):P:=(Dy h).elim (fun h=>h1 h.1 h.2) h2
def good:GoodPg Tryz.prog pg where
 tok:=tok
 funcs:=qx
 other:=by
  intro f E hE call hC args h S β w vs hr hg hw hh hv;have h0:other f=some E:=hE;unfold other at h0;revert h0
  repeat' refine vL ?_ ?_
  all_goals first
   |(intro h0;cases h0;done)
   |(rintro rfl rfl;exact absurd rfl hr)
   |(rintro rfl rfl;exact⟨CE call args h S β w vs hr hg hw hh hv,by kernel_rfl⟩)
   |(rintro rfl rfl;exact⟨AP call args h S β w vs hr hg hw hh hv,by kernel_rfl⟩)
   |(rintro rfl rfl;exact⟨AR call args h S β w vs hr hg hw hh hv,by kernel_rfl⟩)
   |(rintro rfl rfl;exact⟨AU call args h S β w vs hr hg hw hh hv,by kernel_rfl⟩)
   |(rintro rfl rfl;exact⟨AW call args h S β w vs hr hg hw hh hv,by kernel_rfl⟩)
   |(rintro rfl rfl;exact⟨AX call args h S β w vs hr hg hw hh hv,by kernel_rfl⟩)
   |(rintro rfl rfl;exact⟨AQ call args h S β w vs hr hg hw hh hv,by kernel_rfl⟩)
   |(rintro rfl rfl;exact⟨AZ call args h S β w vs hr hg hw hh hv,by kernel_rfl⟩)
   |(rintro rfl rfl;exact⟨A0 call args h S β w vs hr hg hw hh hv,by kernel_rfl⟩)
 nw:=by
  intro f hf;have h0:(bif Nat.beq f 103 then true else false)=true:=hf;cases hb:Nat.beq f 103 with
  |true=>
   have:=Eo hb
   subst this;exact⟨_,rfl,nH T 54⟩
  |false=>rw[hb]at h0;cases h0
end Go.Proofs.YteemeakjlfnapaaGreatDoor
namespace Go.Proofs.YteemeakjlfnapaaGreatDoor
open Go Go.Av Go.ChangeShapes Go.WideShapes Go.ChangeAt Go.RowKit
set_option maxRecDepth 1000000
def DO:ownKnob Tryz.prog.godebug=none:=by kernel_rfl
def Az{W:World}(hL:laidMetH Tryz.prog Rows.compatClaimsRow.laid W)(hS:W.ShapedOpen Tryz.prog):GOKw W:=by
 have h0:laidMet Tryz.prog Rows.compatClaimsRow.laid W:=hL;have h1:=h0.tail;have h2:=h1.tail;have h3:=h2.tail;have h4:=h3.tail;have hp:=Lib.tabIs_of_head (k:=.u64) (zs:=Lib.pow10Tab) (g:=3) (t:=278) (e:=214) (n:=20) (by kernel_rfl) (by kernel_rfl) (by kernel_rfl) (by kernel_rfl) (by kernel_rfl) (by kernel_rfl) h2;have ha:=Lib.tabIs_of_head (k:=.u8) (zs:=Lib.asciiSpaceTab) (g:=0) (t:=228) (e:=5) (n:=256) (by kernel_rfl) (by kernel_rfl) (by kernel_rfl) (by kernel_rfl) (by kernel_rfl) (by kernel_rfl) h4;have hvar:∀ {name:String} {g:Nat} {cs:Array Value},Tryz.prog.globalNamed name=some g->W.var? Tryz.prog name=some cs->∃t fr,W.heap[g]? = some (.cells cs t fr):=by
  intro name g cs hn hv;unfold World.var? at hv;rw[hn]at hv;simp only[FX]at hv;split at hv
  ·rename_i c t fr hh;simp only[Ek]at hv;subst hv;exact⟨t,fr,hh⟩
  ·cases hv
 refine⟨hvar (by kernel_rfl) ha,?_,hvar (by kernel_rfl) hp⟩;exact cell_of_shapedOpen_int (zero:=#[.int .i64 0]) (t:=3) hS (F7 (by kernel_rfl)) (by kernel_rfl) rfl (by kernel_rfl) (by kernel_rfl) Tryz.underlying3
mutual
def gQ:DataW Unit->List Value
 |.lit (.bool b)=>[.bool b]
 |.lit (.int k n)=>[.int k n]
 |.lit (.string s)=>[.string ⟨s.toArray⟩]
 |.agg ps=>wa ps
 |_=>[]
def wa:List (DataW Unit)->List Value
 |[]=>[]
 |d:: ds=>gQ d++wa ds
end
def sC:List Value:=[9,13,1,32,133,101,160,5760,5600,8192,8202,1,8232,8233,1,8239,8287,48,12288,12288,1].map (Value.int .u16)
noncomputable def low:Nat:=(World.holding Tryz.prog default ⟨#[],#[],[]⟩).heap.size
noncomputable def xx:List (Option (Array Value)):=[some (gQ Rows.laid_strings_asciiSpace).toArray,some #[.pointer (some ⟨low,0,none⟩)],
 none,some (gQ Rows.laid_internal_strconv_uint64pow10).toArray,none,none,some (gQ Rows.laid_math_bits_deBruijn32tab).toArray,some (gQ Rows.laid_math_bits_deBruijn64tab).toArray]
def pp:List Obj->List (Option (Array Value))->List Obj
 |.cells _ t fr:: os,some c:: cs=>.cells c t fr:: pp os cs
 |o:: os,_:: cs=>o:: pp os cs
 |os,[]=>os
 |[],_=>[]
noncomputable def kd(os:Os):World:=
 let w0:=World.holding Tryz.prog os ⟨#[.cells #[.slice (some ⟨low+1,0,none⟩) 7 7,.slice none 0 0,.int .i64 2] 267,.cells sC.toArray 270],#[],[]⟩
 { w0 with heap:=(pp w0.heap.toList xx).toArray }
def wH(os:Os)(args:Array Value):laidMet Tryz.prog Rows.compatClaimsRow.laid ((kd os).forCall (fun _ _=>0) ⟨#[],args,[]⟩).memory:=
 laidMet_of_run3 8 (by kernel_rfl) (by kernel_rfl) (by kernel_rfl)
end Go.Proofs.YteemeakjlfnapaaGreatDoor
namespace Go.Proofs.YteemeakjlfnapaaGreatDoor
open Go Go.Av Go.Av.Ap Go.RowKit
set_option maxRecDepth 1000000
section
variable {H:Type} {enc:TypeId×Value->H} {W:World}
theorem jF:reachBytes=140737488351232:=rfl
theorem Ty.lim_mk{k:Int}{fs:List dV}(h2:fs.length<=140737488355328)(h3:∀v∈fs,v.2.Lim):(Ty.mk k fs).Lim:=fun j=>match j with
 |0=>trivial
 |j+1=>⟨h2,fun x hx=>h3 x hx j⟩
theorem mG{N:Nat}(h:Rd enc Tryz.prog W N 27 (fun v:Ty=>v.cells) Ty.Lim):Rd enc Tryz.prog W (N+1) 25 (fun l:List dV=>[aQ l]) (fun l=>l.length<=140737488355328/\∀v∈l,v.2.Lim):=
 (jE ((fh Tryz.underlying76 (by kernel_rfl) (aU (ki Tryz.underlying9) rfl (by kernel_rfl:_=1) (aU h rfl (by kernel_rfl:_=2) fY))).map (fun x=>((x.1,x.2.1):dV)) (cells':=fun f=>ab (bb f)) (Ok':=fun f=>f.2.Lim) (fun x=>by simp[Ty.cells_eq]) (fun x h=>h.2.1))
  Tryz.underlying25 (by kernel_rfl:_=3) (by decide) (by kernel_rfl:_=48) (ev:=bb) (jV fun v=>by rw[fq];rfl)).map id (fun l=>by simp[aQ,cC]) (fun l h=>⟨by have:=h.1;rw[jF]at this;simp only[id];omega,h.2⟩)
theorem xa:∀N,Rd enc Tryz.prog W N 27 (fun v:Ty=>v.cells) Ty.Lim
 |0=>.zero
 | N+1=>(fh Tryz.underlying27 (by kernel_rfl) (aU (mH Tryz.underlying3) rfl (by kernel_rfl:_=1) (aU ((mG (xa N)).le (G3 N)) rfl (by kernel_rfl:_=1) fY))).map (fun x=>Ty.mk x.1 x.2.1)
   (fun x=>by simp[Ty.cells_eq,Ty.kind,Ty.fields]) (fun x h=>Ty.lim_mk h.2.1.1 h.2.1.2)
end
end Go.Proofs.YteemeakjlfnapaaGreatDoor
namespace Go.Proofs.YteemeakjlfnapaaGreatDoor
open Go Go.Av Go.Av.Ap Go.RowKit
set_option maxRecDepth 1000000
section
variable {H:Type} {enc:TypeId×Value->H} {W:World}
theorem tw(N:Nat):Rd enc Tryz.prog W N 35 (fun l:List bI=>[strs l]) (fun l=>l.length<=8796093022208):=
 (jE (ki Tryz.underlying9) Tryz.underlying35 (by kernel_rfl:_=1) (by decide) (by kernel_rfl:_=16) (wb fun _=>rfl)).map id (fun _=>rfl) (fun l h=>by have:=h.1;rw[jF]at this;simp only[id];omega)
theorem Exp.lim_mk{o n:Int}{s m:bI}{ns:List bI}{es:List Exp}(h1:ns.length<=8796093022208)(h2:es.length<=140737488355328)(h3:∀v∈es,v.Lim):(Exp.mk o n s m ns es).Lim:=fun j=>match j with
 |0=>trivial
 |j+1=>⟨h1,h2,fun x hx=>h3 x hx j⟩
theorem mF{N:Nat}(h:Rd enc Tryz.prog W N 47 (fun v:Exp=>v.cells) Exp.Lim):Rd enc Tryz.prog W N 36 (fun l:List Exp=>[ci l]) (fun l=>l.length<=140737488355328/\∀v∈l,v.Lim):=
 (jE h Tryz.underlying36 (by kernel_rfl:_=6) (by decide) (by kernel_rfl:_=96) (ev:=Exp.av) (jV fun v=>rfl)).map id (fun l=>by simp[ci,fm]) (fun l h=>⟨by have:=h.1;rw[jF]at this;simp only[id];omega,h.2⟩)
theorem sD:∀N,Rd enc Tryz.prog W N 47 (fun v:Exp=>v.cells) Exp.Lim
 |0=>.zero
 | N+1=>(fh Tryz.underlying47 (by kernel_rfl) (aU (mH Tryz.underlying3) rfl (by kernel_rfl:_=1) (aU (mH Tryz.underlying3) rfl (by kernel_rfl:_=1) (aU (ki Tryz.underlying9) rfl (by kernel_rfl:_=1) (aU (ki Tryz.underlying9) rfl (by kernel_rfl:_=1)
   (aU (tw N) rfl (by kernel_rfl:_=1) (aU (mF (sD N)) rfl (by kernel_rfl:_=1) fY))))))).map (fun x=>Exp.mk x.1 x.2.1 x.2.2.1 x.2.2.2.1 x.2.2.2.2.1 x.2.2.2.2.2.1) (fun x=>by simp[Exp.cells_eq,Exp.op,Exp.n,Exp.s,Exp.m,Exp.names,Exp.args]) (fun x h=>Exp.lim_mk h.2.2.2.2.1 h.2.2.2.2.2.1.1 h.2.2.2.2.2.1.2)
theorem pt(N:Nat):Rd enc Tryz.prog W N 36 (fun l:List Exp=>[ci l]) (fun l=>l.length<=140737488355328/\∀v∈l,v.Lim):=mF (sD N)
theorem pu(N:Nat):Rd enc Tryz.prog W N 25 (fun l:List dV=>[aQ l]) (fun l=>l.length<=140737488355328/\∀v∈l,v.2.Lim):=(mG (xa N)).le (G3 N)
theorem A5(N:Nat):Rd enc Tryz.prog W (N+1) 73 (fun f:Fun=>ab f.av) Fun.Lim:=
 (fh Tryz.underlying73 (by kernel_rfl) (aU (ki Tryz.underlying9) rfl (by kernel_rfl:_=1) (aU (tv Tryz.underlying4) rfl (by kernel_rfl:_=1) (aU (pu N) rfl (by kernel_rfl:_=1) (aU (xa N) rfl (by kernel_rfl:_=2)
  (aU (mH Tryz.underlying3) rfl (by kernel_rfl:_=1) (aU (sD N) rfl (by kernel_rfl:_=6) fY))))))).map (fun x=>(⟨x.1,x.2.1,x.2.2.1,x.2.2.2.1,x.2.2.2.2.1,x.2.2.2.2.2.1⟩:Fun))
  (fun x=>by simp[Ty.cells_eq,Exp.cells_eq]) (fun x h=>⟨h.2.2.1.1,h.2.2.1.2,h.2.2.2.1,h.2.2.2.2.2.1⟩)
theorem yK(N:Nat):Rd enc Tryz.prog W N 37 (fun l:List Fun=>[bK l]) (fun l=>l.length<=140737488355328/\∀v∈l,v.Lim):=
 ((jE (A5 N) Tryz.underlying37 (by kernel_rfl:_=12) (by decide) (by kernel_rfl:_=184) (ev:=Fun.av) (jV fun v=>rfl)).map id (fun l=>by simp[bK]) (fun l h=>⟨by have:=h.1;rw[jF]at this;simp only[id];omega,h.2⟩)).le (G3 N)
theorem A6(N:Nat):Rd enc Tryz.prog W (N+1) 41 (fun m:Mod=>ab m.av) Mod.Lim:=
 (fh Tryz.underlying41 (by kernel_rfl) (aU (ki Tryz.underlying9) rfl (by kernel_rfl:_=1) (aU (tw N) rfl (by kernel_rfl:_=1) (aU (pu N) rfl (by kernel_rfl:_=1) (aU (pt N) rfl (by kernel_rfl:_=1)
  (aU (yK N) rfl (by kernel_rfl:_=1) (aU (tv Tryz.underlying4) rfl (by kernel_rfl:_=1)
  (aU ((fh Tryz.underlying39 (by kernel_rfl) (aU (pu N) rfl (by kernel_rfl:_=1) (aU (pt N) rfl (by kernel_rfl:_=1) (aU (pt N) rfl (by kernel_rfl:_=1) fY)))).le (G3 N)) rfl (by kernel_rfl:_=3) fY)))))))).map
  (fun x=>(⟨x.1,x.2.1,x.2.2.1,x.2.2.2.1,x.2.2.2.2.1,x.2.2.2.2.2.1,x.2.2.2.2.2.2.1.1,x.2.2.2.2.2.2.1.2.1,x.2.2.2.2.2.2.1.2.2.1⟩:Mod))
  (fun x=>by simp) (fun x h=>⟨by have:=h.2.1;simp only;omega,h.2.2.1.1,h.2.2.1.2,h.2.2.2.1.1,h.2.2.2.1.2,h.2.2.2.2.1.1,h.2.2.2.2.1.2,h.2.2.2.2.2.2.1.1.1,h.2.2.2.2.2.2.1.1.2,h.2.2.2.2.2.2.1.2.1.1,h.2.2.2.2.2.2.1.2.1.2,h.2.2.2.2.2.2.1.2.2.1.1,h.2.2.2.2.2.2.1.2.2.1.2⟩)
end
end Go.Proofs.YteemeakjlfnapaaGreatDoor
namespace Go.Proofs.YteemeakjlfnapaaGreatDoor
open Go Go.Av Go.Av.Ap
set_option maxRecDepth 100000
@[simp] theorem B2(t:Nat)(a b:Int):au T .geq t (.int .u8 a) (.int .u8 b)=some (.bool (decide (b<=a))):=rfl
@[simp] theorem B3(t:Nat)(a b:Int):au T .leq t (.int .u8 a) (.int .u8 b)=some (.bool (decide (a<=b))):=rfl
@[simp] theorem tE(t:Nat)(a b:bI):au T .leq t (.str a) (.str b)=some (.bool (aC a b||a== b)):=rfl
def yv(f:AV)(F:dV->Bool)(l:List dV)(hb:l.length<=4611686018427387904)(hf:∀x∈l,di (ai pg) f [bb x]=M.pure (.bool (F x))):∀(n:Nat)(i:Int),l.length-i.toNat=n->0<=i->i<=l.length->
  ak (L189_0 (ai pg) ak) [aQ l,f,.int .i64 l.length,.int .i64 i]=M.pure (.int .i64 (cV F (l.drop i.toNat) i)):=by
 intro n
 induction n with
 |zero=>
  intro i hn hi hl;rw[FL189_0];simp only[L189_0];have h1:¬(i<(l.length:Int)):=by omega
  have h2:l.drop i.toNat=[]:=Fc (by omega);simp[h1,h2,cV]
 |succ n ih=>
  intro i hn hi hl;have h1:i<(l.length:Int):=by omega
  have hlt:i.toNat<l.length:=by omega
  have h2:cV F (l.drop i.toNat) i=if F l[i.toNat]=true then i else cV F (l.drop (i.toNat+1)) (i+1):=by rw[EU hlt];rfl
  have h3:=hf l[i.toNat] (EF hlt);have h4:=ih (i+1) (by omega) (by omega) (by omega);rw[show (i+1).toNat=i.toNat+1 by omega]at h4;rw[FL189_0];simp only[L189_0];simp (disch:=omega) [h1,dB,pM,h3,h2];cases F l[i.toNat]
  ·simpa using h4
  ·simp
def t189(f:AV)(F:dV->Bool)(l:List dV)(hb:l.length<=4611686018427387904)(hc:∀g,cl g f=f)(hf:∀x∈l,di (ai pg) f [bb x]=M.pure (.bool (F x))):ai pg 189 [aQ l,f]=M.pure (.int .i64 (cV F l 0)):=by
 rw[C189];simp[S189,hc,yv f F l hb hf l.length 0 rfl (by omega) (by omega)]
def t131(f:AV)(F:dV->Bool)(l:List dV)(hb:l.length<=4611686018427387904)(hc:∀g,cl g f=f)(hf:∀x∈l,di (ai pg) f [bb x]=M.pure (.bool (F x))):ai pg 131 [aQ l,f]=M.pure (.bool (l.any F)):=by
 rw[C131];simp[S131,hc,t189 f F l hb hc hf,nT]
def yx(f:AV)(F:Ty->Bool)(l:List Ty)(hb:l.length<=4611686018427387904)(hf:∀x∈l,di (ai pg) f [Ty.av x]=M.pure (.bool (F x))):∀(n:Nat)(i:Int),l.length-i.toNat=n->0<=i->i<=l.length->
  ak (L204_0 (ai pg) ak) [jN l,f,.int .i64 l.length,.int .i64 i]=M.pure (.int .i64 (cV F (l.drop i.toNat) i)):=by
 intro n
 induction n with
 |zero=>
  intro i hn hi hl;rw[FL204_0];simp only[L204_0];have h1:¬(i<(l.length:Int)):=by omega
  have h2:l.drop i.toNat=[]:=Fc (by omega);simp[h1,h2,cV]
 |succ n ih=>
  intro i hn hi hl;have h1:i<(l.length:Int):=by omega
  have hlt:i.toNat<l.length:=by omega
  have h2:cV F (l.drop i.toNat) i=if F l[i.toNat]=true then i else cV F (l.drop (i.toNat+1)) (i+1):=by rw[EU hlt];rfl
  have h3:=hf l[i.toNat] (EF hlt);have h4:=ih (i+1) (by omega) (by omega) (by omega);rw[show (i+1).toNat=i.toNat+1 by omega]at h4;rw[FL204_0];simp only[L204_0];simp (disch:=omega) [h1,dB,zt,h3,h2];cases F l[i.toNat]
  ·simpa using h4
  ·simp
def t204(f:AV)(F:Ty->Bool)(l:List Ty)(hb:l.length<=4611686018427387904)(hc:∀g,cl g f=f)(hf:∀x∈l,di (ai pg) f [Ty.av x]=M.pure (.bool (F x))):ai pg 204 [jN l,f]=M.pure (.int .i64 (cV F l 0)):=by
 rw[C204];simp[S204,hc,yx f F l hb hf l.length 0 rfl (by omega) (by omega)]
def t148(f:AV)(F:Ty->Bool)(l:List Ty)(hb:l.length<=4611686018427387904)(hc:∀g,cl g f=f)(hf:∀x∈l,di (ai pg) f [Ty.av x]=M.pure (.bool (F x))):ai pg 148 [jN l,f]=M.pure (.bool (l.any F)):=by
 rw[C148];simp[S148,hc,t204 f F l hb hc hf,nT]
def yr(f:AV)(F:Sig->Bool)(l:List Sig)(hb:l.length<=4611686018427387904)(hf:∀x∈l,di (ai pg) f [Sig.av x]=M.pure (.bool (F x))):∀(n:Nat)(i:Int),l.length-i.toNat=n->0<=i->i<=l.length->
  ak (L101_0 (ai pg) ak) [sigs l,f,.int .i64 l.length,.int .i64 i]=M.pure (.int .i64 (cV F (l.drop i.toNat) i)):=by
 intro n
 induction n with
 |zero=>
  intro i hn hi hl;rw[FL101_0];simp only[L101_0];have h1:¬(i<(l.length:Int)):=by omega
  have h2:l.drop i.toNat=[]:=Fc (by omega);simp[h1,h2,cV]
 |succ n ih=>
  intro i hn hi hl;have h1:i<(l.length:Int):=by omega
  have hlt:i.toNat<l.length:=by omega
  have h2:cV F (l.drop i.toNat) i=if F l[i.toNat]=true then i else cV F (l.drop (i.toNat+1)) (i+1):=by rw[EU hlt];rfl
  have h3:=hf l[i.toNat] (EF hlt);have h4:=ih (i+1) (by omega) (by omega) (by omega);rw[show (i+1).toNat=i.toNat+1 by omega]at h4;rw[FL101_0];simp only[L101_0];simp (disch:=omega) [h1,dB,uL,h3,h2];cases F l[i.toNat]
  ·simpa using h4
  ·simp
def t101(f:AV)(F:Sig->Bool)(l:List Sig)(hb:l.length<=4611686018427387904)(hc:∀g,cl g f=f)(hf:∀x∈l,di (ai pg) f [Sig.av x]=M.pure (.bool (F x))):ai pg 101 [sigs l,f]=M.pure (.int .i64 (cV F l 0)):=by
 rw[C101];simp[S101,hc,yr f F l hb hf l.length 0 rfl (by omega) (by omega)]
def t199(b:UInt8):ai pg 199 [.int .u8 b.toNat]=M.pure (.bool (ll b)):=by
 rw[C199];have e:decide ((b.toNat:Int)<=122)=decide (b.toNat<=122):=FH.2 (by omega);have e2:decide (97<=(b.toNat:Int))=decide (97<=b.toNat):=FH.2 (by omega);simp[S199,ll,e,e2]
def t202(b:UInt8):ai pg 202 [.int .u8 b.toNat]=M.pure (.bool (rX b)):=by
 rw[C202];have e:decide ((b.toNat:Int)<=57)=decide (b.toNat<=57):=FH.2 (by omega);have e2:decide (48<=(b.toNat:Int))=decide (48<=b.toNat):=FH.2 (by omega);simp[S202,rX,e,e2]
def t201(b:UInt8):ai pg 201 [.int .u8 b.toNat]=M.pure (.bool (lB b)):=by
 rw[C201];simp[S201,t199,t202,lB]
theorem zl{s:bI}{i:Nat}(h:i<s.length):eu T 9 (.str s) (.int .i64 (i:Int))=some (.int .u8 (s[i].toNat:Int)):=by
 have e1:eu T 9 (.str s) (.int .i64 (i:Int))=(if(i:Int)<0 then none else s[(i:Int).toNat]?.map fun b=>.int .u8 b.toNat):=rfl;rw[e1,if_neg (by omega),Ez,Ex h];rfl
def yw(F:UInt8->Bool)(f:AV)(s:bI)(hb:s.length<=4611686018427387904)(hf:∀b:UInt8,di (ai pg) f [.int .u8 b.toNat]=M.pure (.bool (F b))):∀(n i:Nat),s.length-i=n->i<=s.length->
  ak (L200_0 (ai pg) ak) [.str s,f,.int .i64 i]=M.pure (.int .i64 ((i+((s.drop i).takeWhile F).length:Nat):Int)):=by
 intro n
 induction n with
 |zero=>
  intro i hn hi;rw[FL200_0];simp only[L200_0];have h1:¬((i:Int)<(s.length:Int)):=by omega
  have h2:s.drop i=[]:=Fc (by omega);simp[h1,h2]
 | succ n ih=>
  intro i hn hi;have hlt:i<s.length:=by omega
  have h1:(i:Int)<(s.length:Int):=by omega
  have h2:s.drop i=s[i]:: s.drop (i+1):=EU hlt;have h4:=ih (i+1) (by omega) (by omega);have hw:IntKind.i64.wrap ((i:Int)+1)=((i+1:Nat):Int):=aX (by omega);rw[FL200_0];simp only[L200_0,aZ,bj,Dj,aN,bP,h1,Fu,cT,zl hlt,hf,aT,ez,a8,eH,hw,h4,h2,List.takeWhile_cons];cases F s[i]
  ·simp
  ·rw[Es rfl,Es rfl];congr 3;simp;omega
def t146(s:bI):ai pg 146 [.str s]=M.pure (.bool (kY s)):=by
 rw[C146];by_cases hs:s=[]
 ·subst hs;simp[S146,kY]
 ·have hs':(s== [])=false:=Fh.2 hs;have hpos:0<s.length:=FV.2 hs;have h0:=zl (s:=s) (i:=0) hpos;have hd:s[0]=s.headD 0:=by cases s with|nil=>exact absurd rfl hs|cons c s=>rfl
  rw[hd]at h0;simp at h0;by_cases hl:s.length<=20
  ·have h1:=yw lB (.fn (.func 201) [] []) s (by omega) (fun b=>t201 b) s.length 0 (by simp) (by simp);have hsp:ai pg 200 [.str s,.fn (.func 201) [] []]=M.pure (.int .i64 (((s.takeWhile lB).length:Nat):Int)):=by
    rw[C200];simp only[S200,cl,dD];rw[show (AV.int .i64 0)=AV.int .i64 ((0:Nat):Int)from rfl,h1];simp
   have e1:decide (20<(s.length:Int))=false:=by rw[FU];omega
   have e3:decide (20<s.length)=false:=by rw[FU];omega
   have e4:decide (s.length<=20)=true:=by simpa using hl
   simp[S146,hs',h0,t199,hsp,e1,e3,e4,kY]
  ·have e1:decide (20<(s.length:Int))=true:=by rw[Ew];omega
   have e3:decide (20<s.length)=true:=by rw[Ew];omega
   have e4:decide (s.length<=20)=false:=by simpa using hl
   simp[S146,hs',h0,t199,e1,e3,e4,kY]
def t147(s:bI):ai pg 147 [.str iq,.str s]=M.pure (.bool (Lib.contains iq s)):=by
 rw[dS hOther (E:=fP) rfl];rfl
theorem tC(t:Nat)(a b:bI):au T .add t (.str a) (.str b)=if a.length+b.length<=4611686018427387904 then some (.str (a++b))else none:=rfl
def t76(s:bI):ai pg 76 [.str s]=M.pure (.bool (bz s)):=by
 rw[C76];have h1:=t146 s;unfold bz;cases hw:kY s with
 |false=>
  rw[hw]at h1;simp[S76,h1]
 |true=>
  have hl:=uJ hw;rw[hw]at h1;have h2:=t147 ([32]++s++[32]);unfold iq at h2;have e1:au T .add 9 (.str [32]) (.str s)=some (.str ([32]++s)):=by rw[tC,Es (by simp;omega)]
  have e2:au T .add 9 (.str ([32]++s)) (.str [32])=some (.str ([32]++s++[32])):=by rw[tC,Es (by simp;omega)]
  simp only[S76,rR,h1,aT,cT,e1,aN,e2,h2,ln,aZ,ez,dx,FA];rfl
def yo{t:Ty}(h:t.Lim)(k:Nat)(hk:k<t.fields.length):(t.fields[k]!).2.Lim:=by
 rw[EI t.fields k hk];exact h.kid (EF hk)
theorem t116:∀(d:Nat),d<=4->∀(t:Ty),t.Lim->ai pg 116 [t.av,.int .i64 d]=M.pure (.bool (cD d t))
 |0,_,t,_=>by
  rw[C116];simp[S116,cD]
 | d + 1,hd,t,ht=>by
  have ih:=t116 d (by omega);have hlen:=ht.len;have hd1:IntKind.i64.wrap ((((d+1:Nat)):Int)-1)=(d:Int):=oF (by omega);have hloop:=o4 (F:=L116_0 (ai pg) ak) (FL116_0 (ai pg)) (fun k=>[.int .i64 ((d+1:Nat):Int),.ip (ab t.av),aQ t.fields,.int .i64 t.fields.length,.int .i64 k]) t.fields.length
   (fun k=>(bz (t.fields[k]!).1&&cD d (t.fields[k]!).2)&&(decide (k=0)||df (t.fields[k-1]!).1 (t.fields[k]!).1))
   (by simp[L116_0]) (fun k hk=>by
    have h1:(k:Int)<(t.fields.length:Int):=by omega
    have hix:=pM (l:=t.fields) (n:=(k:Int)) (by omega) h1;rw[Ez]at hix;have hm:t.fields[k]! ∈t.fields:=by rw[EI t.fields k hk];exact EF hk
    have h2:=t76 (t.fields[k]!).1;have h3:=ih (t.fields[k]!).2 (yo ht k hk);have hw:IntKind.i64.wrap ((k:Int)+1)=(k:Int)+1:=by rw[aX (by omega)];simp
    have hd0:IntKind.i64.wrap (d:Int)=(d:Int):=xy (by omega);generalize t.fields[k]! = f at hix h2 h3 hm |-;rcases E1 k with hk0|hk0
    ·subst hk0;have hix0:ap T 25 (aQ t.fields) (.int .i64 0)=some (.ip (ab (bb f))):=hix;have hw0:IntKind.i64.wrap 1=1:=rfl;simp[L116_0,hix0,h2,h3,hw0,hd0,hk];cases bz f.1<;>cases cD d f.2<;>simp
    ·have hp:IntKind.i64.wrap ((k:Int)-1)=((k-1:Nat):Int):=by
      rw[dB (by omega) (by omega)];omega
     have h4:((k-1:Nat):Int)<(t.fields.length:Int):=by omega
     have hix2:=pM (l:=t.fields) (n:=((k-1:Nat):Int)) (by omega) h4;rw[Ez]at hix2;generalize t.fields[k-1]! = g at hix2 |-;have hk1:¬k=0:=by omega
     simp[L116_0,h1,hix,h2,h3,hw,hd0,hp,hix2,hk0,hk1,hk];cases bz f.1<;>simp;cases h5:aC f.1 g.1<;>cases cD d f.2<;>by_cases h6:f.1=g.1<;>simp[df,h5,h6]) 0 (ES _)
  have hall:((List.range' 0 t.fields.length).all fun k=>(bz (t.fields[k]!).1&&cD d (t.fields[k]!).2)&&(decide (k=0)||df (t.fields[k-1]!).1 (t.fields[k]!).1))=(t.fields.all (fun f=>bz f.1&&cD d f.2)&&fO (fun a b=>df a.1 b.1) t.fields):=
   oM (fun f:dV=>bz f.1&&cD d f.2) (fun a b=>df a.1 b.1) t.fields
  rw[GA,hall]at hloop;rw[C116];have h0:¬((d:Int)+1=0):=by omega
  have hl2:ak (L116_0 (ai pg) ak) [.int .i64 ((d:Int)+1),.ip [.int .i64 t.kind,aQ t.fields],aQ t.fields,.int .i64 t.fields.length,.int .i64 0]=M.pure (.bool (t.fields.all (fun f=>bz f.1&&cD d f.2)&&fO (fun a b=>df a.1 b.1) t.fields)):=by
   simpa using hloop
  have hR:cD (d+1) t=if((t.kind<0\/3<=t.kind)\/8<(t.fields.length:Int))\/¬t.kind=2/\0<t.fields.length then false else(t.fields.all (fun f=>bz f.1&&cD d f.2)&&fO (fun a b=>df a.1 b.1) t.fields):=by
   rw[eT];generalize (t.fields.all (fun f=>bz f.1&&cD d f.2)&&fO (fun a b=>df a.1 b.1) t.fields)=q;generalize t.fields.length=n;generalize t.kind=k;split
   ·rename_i hc;cases q
    ·simp
    ·simp only[GK,GP,FU,F9,Fh];rcases hc with((h|h)|h)|h
     ·exact .inl (.inl (.inl (by omega)))
     ·exact .inl (.inl (.inr (by omega)))
     ·exact .inl (.inr (by omega))
     ·exact .inr ⟨h.1,by omega⟩
   ·rename_i hc;have e1:decide (0<=k)=true:=by rw[Ew];omega
    have e2:decide (k<3)=true:=by rw[Ew];omega
    have e3:decide (n<=8)=true:=by rw[Ew];omega
    have e4:(k== 2||n== 0)=true:=by
     rw[Ft,Fw,Fw];omega
    rw[e1,e2,e3,e4];simp
  rw[hR];simp[S116,h0,hl2]
def t47(t:Ty)(ht:t.Lim):ai pg 47 [t.av]=M.pure (.bool (bR t)):=by
 rw[C47];have:ai pg 116 [t.av,.int .i64 4]=M.pure (.bool (cD 4 t)):=t116 4 (by omega) t ht;simp[S47,this]
def t73(t:Ty)(ht:t.Lim):ai pg 73 [t.av]=M.pure (.bool (bR t)):=by
 rw[C73];simp[S73,t47 t ht]
theorem kK:(l:List dV)->ep (cZ l)=some (l.map fun f=>(f.1,f.2.kind,cZ f.2.fields))
 |[]=>rfl
 |f:: l=>by simp[cZ,ep,kK l,fq,qq,aQ]
theorem nW{α β:Type}(g:α->β)(p:β->Bool):(l:List α)->cj p (l.map g)=(cj (fun x=>p (g x)) l).map g
 |[]=>rfl
 |x:: l=>by
  simp only[EN,cj,nW g p l];cases cj (fun x=>p (g x)) l with
  |some y=>rfl
  |none=>cases p (g x)<;>rfl
def ty0:Ty:=.mk 0 []
def t181(l:List dV)(hl:l.length<=1000000000)(s:bI):ai pg 181 [aQ l,.str s]=M.pure (.tup [((cj (fun f=>f.1== s) l).map (·.2)).getD ty0 |>.av,.bool (cj (fun f=>f.1== s) l).isSome]):=by
 rw[dS hOther (E:=ig) rfl];unfold ig aQ;simp only[kK,ET,hl,Fu,El,su,nW];cases cj (fun f:dV=>f.1== s) l with
 |none=>rfl
 |some f=>simp[ah,M.pure,Ty.av,Ty.cells_eq,aQ];rfl
def Ty.Short:Nat->Ty->Prop
 |0,_=>True
 |n+1,t=>t.fields.length<=1000000000/\∀f∈t.fields,Ty.Short n f.2
theorem gu:∀(d:Nat)(t:Ty),cD d t=true->∀n,Ty.Short n t
 |0,t,h,_=>by cases h
 |d+1,t,h,0=>trivial
 |d+1,t,h,n+1=>by
  rw[eT]at h;simp only[Em,Ew,Et]at h;exact⟨by omega,fun f hf=>gu d f.2 (h.2.1 f hf).2 n⟩
theorem nX{α:Type}{p:α->Bool}:{l:List α} ->{x:α} ->cj p l=some x->x∈l/\p x=true
 |[],x,h=>by cases h
 | y:: l,x,h=>by
  simp only[cj]at h;cases h2:cj p l with
  |some z=>
   rw[h2]at h;cases h
   have:=nX h2
   exact⟨Fq _ this.1,this.2⟩
  |none=>
   rw[h2]at h;cases h3:p y with
   |true=>rw[h3]at h;cases h;exact⟨E9,h3⟩
   |false=>rw[h3]at h;cases h
def kP{α:Type}(P:α->Bool)(l:List α):(!l.any fun x=>!P x)=l.all P:=by simp[List.not_any_eq_all_not]
theorem t125:∀(n:Nat)(b a:Ty),Ty.Short n a->Ty.Short n b->cD n b=true->ai pg 125 [a.av,b.av]=M.pure (.bool (iH a b))
 |0,b,a,_,_,h=>by cases h
 | n+1,b,a,ha,hb,h=>by
  have ih:=t125 n;rw[eT]at h;simp only[Em,Ew,Et]at h;have hf:∀f∈b.fields,di (ai pg) (.fn (.func 186) [] [.ip (ab a.av)]) [bb f]=M.pure (.bool (!(match cj (fun z=>z.1== f.1) a.fields with|some z=>iH z.2 f.2|none=>false))):=by
   intro f hfm;show ai pg 186 [bb f,.ip (ab a.av)]=_;have h1:=t181 a.fields ha.1 f.1;rw[C186];cases hl:cj (fun z:dV=>z.1== f.1) a.fields with
   |none=>
    rw[hl]at h1;simp[S186,h1,cl,dD]
   |some z=>
    rw[hl]at h1;have h2:=ih f.2 z.2 (ha.2 z (nX hl).1) (hb.2 f hfm) (h.2.1 f hfm).2;simp[S186,h1,cl,dD,h2]
  have h2:=t131 (.fn (.func 186) [] [.ip (ab a.av)]) _ b.fields (by have:=hb.1;omega) (fun g=>by simp[cl,dD]) hf;rw[C125,nz];simp at h2;simp[S125,h2];rw[kP];rfl
def t56(a b:Ty)(ha:a.Lim)(hb:b.Lim):ai pg 56 [a.av,b.av]=M.pure (.bool (pD a b)):=by
 rw[C56];unfold pD;have h1:=t73 a ha;have h2:=t73 b hb;cases r1:bR a with
 |false=>
  rw[r1]at h1;simp[S56,h1]
 | true=>
  cases r2:bR b with
  |false=>
   rw[r1]at h1;rw[r2]at h2;simp[S56,h1,h2]
  |true=>
   rw[r1]at h1;rw[r2]at h2;have h3:=t125 4 b a (gu 4 a r1 4) (gu 4 b r2 4) r2;simp[S56,h1,h2,h3]
def t111(f:AV)(F:Ty->Ty->Bool)(a b:List Ty)(hb:a.length<=4611686018427387904)(hc:∀g,cl g f=f)(hf:∀x∈a,∀y∈b,di (ai pg) f [x.av,y.av]=M.pure (.bool (F x y))):ai pg 111 [jN a,jN b,f]=M.pure (.bool (mY F a b)):=by
 rw[C111];by_cases h:a.length=b.length
 ·have hloop:=o4 (FL111_0 (ai pg)) (fun k=>[jN b,f,jN a,.int .i64 a.length,.int .i64 (k:Int)]) a.length (fun k=>F a[k]! b[k]!)
   (by simp[L111_0]) (fun k hk=>by
    have h1:(k:Int)<(a.length:Int):=by omega
    have h1b:(k:Int)<(b.length:Int):=by omega
    have hixa:=zt (l:=a) (n:=(k:Int)) (by omega) h1;have hixb:=zt (l:=b) (n:=(k:Int)) (by omega) h1b;rw[Ez]at hixa hixb;have hma:a[k]! ∈a:=by rw[EI a k hk];exact EF hk
    have hmb:b[k]! ∈b:=by rw[EI b k (by omega)];exact EF (by omega)
    have h3:=hf _ hma _ hmb;have hw:IntKind.i64.wrap ((k:Int)+1)=(k:Int)+1:=by rw[aX (by omega)];simp
    generalize a[k]! = x at hixa h3 |-;generalize b[k]! = y at hixb h3 |-;simp[L111_0,hk,hixa,hixb,h3,hw];cases F x y<;>simp) 0 (ES _)
  rw[GA,lA F a b h]at hloop;simp[S111,h,hc]at hloop |-;simp[hloop]
 ·have h2:=kw F a b h;have h3:(a.length != b.length)=true:=by simp[h]
  simp[S111,h3,hc,h2]
@[simp] theorem z8(t:Nat)(a b:Int):au T .andNot t (.int .i64 a) (.int .i64 b)=some (.int .i64 (dt a b)):=rfl
def t44(a b:Sig)(ha:a.Lim)(hb:b.Lim):ai pg 44 [a.av,b.av]=M.pure (.bool (sU a b)):=by
 rw[C44];have h1:=t111 (.fn (.func 56) [] []) pD b.params a.params (by have:=hb.plen;omega) (fun g=>rfl) (fun x hx y hy=>t56 x y (hb.ptys x hx) (ha.ptys y hy));have h2:=t56 a.result b.result ha.result hb.result;unfold sU;cases r1:mY pD b.params a.params with
 |false=>
  rw[r1]at h1;simp[S44,h1]
 | true=>
  cases r2:pD a.result b.result with
  |false=>
   rw[r1]at h1;rw[r2]at h2;simp[S44,h1,h2]
  |true=>
   rw[r1]at h1;rw[r2]at h2;simp[S44,h1,h2]
def t149(t:Ty)(ht:t.Lim):ai pg 149 [t.av]=M.pure (.bool (!(bR t))):=by
 rw[C149];simp[S149,t47 t ht]
def t77(s:Sig)(hs:s.Lim):ai pg 77 [s.av]=M.pure (.bool (dM s)):=by
 rw[C77];have h1:=t76 s.name;have h2:=t47 s.result hs.result;have h3:=t148 (.fn (.func 149) [] []) (fun t=>!(bR t)) s.params (by have:=hs.plen;omega) (fun g=>rfl) (fun x hx=>t149 x (hs.ptys x hx));unfold dM;rw[<- kP bR s.params];generalize (s.params.any fun x=>!bR x)=q at h3 |-;by_cases g1:bz s.name=true
 ·rw [g1]at h1;by_cases g2:s.params.length<=6
  ·have g2':¬(6<(s.params.length:Int)):=by omega
   have g2n:¬(6<s.params.length):=by omega
   by_cases g3:dt s.effects 15=0
   ·by_cases g4:bR s.result=true
    ·rw[g4]at h2;simp[S77,h1,h2,h3,g1,g2,g2',g2n,g3,g4]
    ·rw[Gv]at g4;rw[g4]at h2;simp[S77,h1,h2,h3,g1,g2,g2',g2n,g3,g4]
   ·have g3':(dt s.effects 15== 0)=false:=Fh.2 g3;simp[S77,h1,h2,h3,g1,g2,g2',g2n,g3,g3']
  ·have g2':6<(s.params.length:Int):=by omega
   have g2n:6<s.params.length:=by omega
   simp[S77,h1,h2,h3,g1,g2,g2',g2n]
 ·rw[Gv]at g1;rw[g1]at h1;simp[S77,h1,h2,h3,g1]
theorem t27(f:Face)(hf:f.Lim):ai pg 27 [f.av]=M.pure (.bool (cw f)):=by
 have hlen:=hf.len;have hloop:=o4 (FL27_0 (ai pg)) (fun k=>[.ip (ab f.av),sigs f.funcs,.int .i64 f.funcs.length,.int .i64 (k:Int)]) f.funcs.length
  (fun k=>dM f.funcs[k]! && (decide (k=0)||aC (f.funcs[k-1]!).name (f.funcs[k]!).name))
  (by simp[L27_0]) (fun k hk=>by
   have h1:(k:Int)<(f.funcs.length:Int):=by omega
   have hix:=uL (l:=f.funcs) (n:=(k:Int)) (by omega) h1;rw[Ez]at hix;have hm:f.funcs[k]! ∈f.funcs:=by rw[EI f.funcs k hk];exact EF hk
   have h2:=t77 _ (hf.sigs _ hm);have hw:IntKind.i64.wrap ((k:Int)+1)=(k:Int)+1:=by rw[aX (by omega)];simp
   generalize f.funcs[k]! = x at hix h2 hm |-;rcases E1 k with hk0|hk0
   ·subst hk0;have hix0:ap T 22 (sigs f.funcs) (.int .i64 0)=some (.ip (ab x.av)):=hix;have hw0:IntKind.i64.wrap 1=1:=rfl;simp[L27_0,hix0,h2,hw0,hk];cases dM x<;>simp
   ·have hp:IntKind.i64.wrap ((k:Int)-1)=((k-1:Nat):Int):=by
     rw[dB (by omega) (by omega)];omega
    have h4:((k-1:Nat):Int)<(f.funcs.length:Int):=by omega
    have hix2:=uL (l:=f.funcs) (n:=((k-1:Nat):Int)) (by omega) h4;rw[Ez]at hix2;generalize f.funcs[k-1]! = g at hix2 |-;have hk1:¬k=0:=by omega
    simp[L27_0,h1,hix,h2,hw,hp,hix2,hk0,hk1,hk];cases dM x<;>cases aC g.name x.name<;>simp) 0 (ES _)
 have hall:((List.range' 0 f.funcs.length).all fun k=>dM f.funcs[k]! && (decide (k=0)||aC (f.funcs[k-1]!).name (f.funcs[k]!).name))=(f.funcs.all dM&&fO (fun a b=>aC a.name b.name) f.funcs):=
  oM dM (fun a b=>aC a.name b.name) f.funcs
 rw[GA,hall]at hloop;have hl2:ak (L27_0 (ai pg) ak) [.ip [.str f.module,sigs f.funcs],sigs f.funcs,.int .i64 f.funcs.length,.int .i64 0]=M.pure (.bool (f.funcs.all dM&&fO (fun a b=>aC a.name b.name) f.funcs)):=by
  simpa using hloop
 rw[C27];have h1:=t76 f.module;unfold cw;by_cases g1:bz f.module=true
 ·rw[g1]at h1;by_cases g2:f.funcs.length<=30
  ·have g2':¬(30<(f.funcs.length:Int)):=by omega
   have g2n:¬(30<f.funcs.length):=by omega
   simp[S27,h1,g1,g2,g2',g2n,hl2]
  ·have g2':30<(f.funcs.length:Int):=by omega
   have g2n:30<f.funcs.length:=by omega
   simp[S27,h1,g1,g2,g2',g2n]
 ·rw[Gv]at g1;rw[g1]at h1;simp[S27,h1,g1]
def iM{F:(List AV->M AV)->List AV->M AV}(hF:∀vs,ak F vs=F (ak F) vs)(st:Nat->List AV)(n:Nat)(hend:∃b,F (ak F) (st n)=M.pure (.bool b))(hstep:∀k,k<n->(∃b,F (ak F) (st k)=M.pure (.bool b))\/F (ak F) (st k)=ak F (st (k+1))):
  ∀k,k<=n->∃b,ak F (st k)=M.pure (.bool b):=by
 have key:∀r k,n-k=r->k<=n->∃b,ak F (st k)=M.pure (.bool b):=by
  intro r
  induction r with
  |zero=>
   intro k hr hk;obtain rfl:k=n:=by omega
   rw[hF];exact hend
  | succ r ih=>
   intro k hr hk;rw[hF];rcases hstep k (by omega)with h|h
   ·exact h
   ·rw[h];exact ih (k+1) (by omega) (by omega)
 exact fun k hk=>key (n-k) k rfl hk
def oA{t:Ty}{f:dV}(h:f∈t.fields):SizeOf.sizeOf f.2<SizeOf.sizeOf t:=by
 cases t with
 |mk k fs=>
  have h1:=List.sizeOf_lt_of_mem (show f∈fs from h);obtain⟨a,b⟩:=f;show SizeOf.sizeOf b<_;simp at h1 |-;omega
def DF:∀(n:Nat)(t:Ty),SizeOf.sizeOf t<=n->t.Lim->∀most:Int,0<=most->most<=1000->∃r:Int,ai pg 62 [t.av,.int .i64 most]=M.pure (.int .i64 r)/\1<=r/\r<=most+1:=by
 intro n
 induction n with
 |zero=>
  intro t h;cases t;simp at h
 | succ n ih=>
  intro t hs ht most h0 h1;have hlen:=ht.len;have hl:∀(k i:Nat),t.fields.length-i=k->i<=t.fields.length->∀m:Int,1<=m->m<=most+1->∃r:Int,ak (L62_0 (ai pg) ak) [.int .i64 most,.ip (ab t.av),.int .i64 m,.int .i64 i]=M.pure (.int .i64 r)/\1<=r/\r<=most+1:=by
   intro k
   induction k with
   |zero=>
    intro i hk hi m hm1 hm2;rw[FL62_0];have h1:¬((i:Int)<(t.fields.length:Int)):=by omega
    exact⟨m,by simp[L62_0,h1],hm1,hm2⟩
   | succ k ihk=>
    intro i hk hi m hm1 hm2;rw[FL62_0];have hlt:i<t.fields.length:=by omega
    have h1':(i:Int)<(t.fields.length:Int):=by omega
    by_cases hm:m<=most
    ·have hix:=pM (l:=t.fields) (n:=(i:Int)) (by omega) h1';rw[Ez,EI t.fields i hlt]at hix;have hm':=EF hlt;generalize t.fields[i]=f at hix hm';have hsz:=oA hm';obtain⟨r,e1,e2,e3⟩:=ih f.2 (by omega) (ht.kid hm') (most-m) (by omega) (by omega);obtain⟨r2,g1,g2,g3⟩:=ihk (i+1) (by omega) (by omega) (m+r) (by omega) (by omega);have w1:IntKind.i64.wrap (most-m)=most-m:=dB (by omega) (by omega);have w2:IntKind.i64.wrap (m+r)=m+r:=dB (by omega) (by omega);have w3:IntKind.i64.wrap ((i:Int)+1)=((i+1:Nat):Int):=aX (by omega);refine⟨r2,?_,g2,g3⟩;rw[<- g1];simp only[L62_0,aZ,bj,ca,FA27_1,aN,Fx,EY,LD25,uP,bP,iY,h1',hm,Fu,cT,aT,ez,a8,E4,hix,cz,FA76_1,LD27,EG,EH,ED,Nat.reduceAdd,En,EX,E5,dv,oQ,w1,e1,eH,w2,w3]
    ·exact⟨m,by simp[L62_0,h1',hm],hm1,hm2⟩
  obtain⟨r,e1,e2,e3⟩:=hl t.fields.length 0 rfl (by omega) 1 (by omega) (by omega);refine⟨r,?_,e2,e3⟩;rw[C62];have e1':ak (L62_0 (ai pg) ak) [.int .i64 most,.ip (ab t.av),.int .i64 1,.int .i64 0]=M.pure (.int .i64 r):=e1;simp only[S62,kB,oS,e1',qG]
def DG:∀(n:Nat)(t:Ty),SizeOf.sizeOf t<=n->t.Lim->∃b,ai pg 63 [t.av]=M.pure (.bool b):=by
 intro n
 induction n with
 |zero=>
  intro t h;cases t;simp at h
 | succ n ih=>
  intro t hs ht;have hlen:=ht.len;obtain⟨b,hb⟩:=iM (FL63_0 (ai pg)) (fun k=>[.ip (ab t.av),.int .i64 (k:Int)]) t.fields.length ⟨true,by simp[L63_0]⟩ (fun k hk=>by
   have h1:(k:Int)<(t.fields.length:Int):=by omega
   have hix:=pM (l:=t.fields) (n:=(k:Int)) (by omega) h1;rw[Ez,EI t.fields k hk]at hix;have hm':=EF hk;generalize t.fields[k]=f at hix hm';have hsz:=oA hm';have w3:IntKind.i64.wrap ((k:Int)+1)=(k:Int)+1:=by rw[aX (by omega)];simp
   obtain⟨b,hb⟩:=ih f.2 (by omega) (ht.kid hm');by_cases hn:30<(f.1.length:Int)
   ·refine .inl ⟨false,?_⟩;have hn':30<f.1.length:=by omega
    simp[L63_0,h1,hk,hix,hn,hn']
   ·have hn':¬30<f.1.length:=by omega
    cases b with
    |false=>exact .inl ⟨false,by simp[L63_0,h1,hk,hix,hn,hn',hb]⟩
    |true=>exact .inr (by simp[L63_0,h1,hk,hix,hn,hn',hb,w3])) 0 (ES _)
  refine⟨b,?_⟩;rw[C63];have hb':ak (L63_0 (ai pg) ak) [.ip (ab t.av),.int .i64 0]=M.pure (.bool b):=hb;simp only[S63,kB,hb',dx]
def Cg(t:Ty)(ht:t.Lim):∃b,ai pg 16 [t.av]=M.pure (.bool b):=by
 obtain⟨r,e1,e2,e3⟩:=DF _ t (En _) ht 40 (by omega) (by omega);obtain⟨b,hb⟩:=DG _ t (En _) ht;rw[C16];by_cases h:r<=40
 ·exact⟨b,by simp[S16,e1,hb,h]⟩
 ·exact⟨false,by simp[S16,e1,h]⟩
def re{e x:Exp}(h:x∈e.args):SizeOf.sizeOf x<SizeOf.sizeOf e:=by
 cases e with
 |mk o n s m ns es=>
  have h1:SizeOf.sizeOf x<SizeOf.sizeOf es:=List.sizeOf_lt_of_mem h;simp only[Exp.mk.sizeOf_spec];omega
def Ch:∀(n:Nat)(e:Exp),SizeOf.sizeOf e<=n->e.Lim->∀most:Int,0<=most->most<=1000->∃r:Int,ai pg 187 [e.av,.int .i64 most]=M.pure (.int .i64 r)/\1<=r/\r<=most+1:=by
 intro n
 induction n with
 |zero=>
  intro e h;cases e;simp at h
 | succ n ih=>
  intro e hs he most h0 h1;have hlen:=he.len;have hl:∀(k i:Nat),e.args.length-i=k->i<=e.args.length->∀m:Int,1<=m->m<=most+1->∃r:Int,ak (L187_0 (ai pg) ak) [.int .i64 most,.ip (ab e.av),.int .i64 m,.int .i64 i]=M.pure (.int .i64 r)/\1<=r/\r<=most+1:=by
   intro k
   induction k with
   |zero=>
    intro i hk hi m hm1 hm2;rw[FL187_0];have h1:¬((i:Int)<(e.args.length:Int)):=by omega
    exact⟨m,by simp[L187_0,h1],hm1,hm2⟩
   | succ k ihk=>
    intro i hk hi m hm1 hm2;rw[FL187_0];have hlt:i<e.args.length:=by omega
    have h1':(i:Int)<(e.args.length:Int):=by omega
    by_cases hm:m<=most
    ·have hix:=uN (l:=e.args) (n:=(i:Int)) (by omega) h1';rw[Ez,EI e.args i hlt]at hix;have hm':=EF hlt;generalize e.args[i]=f at hix hm';have hsz:=re hm';obtain⟨r,e1,e2,e3⟩:=ih f (by omega) (he.kid hm') (most-m) (by omega) (by omega);obtain⟨r2,g1,g2,g3⟩:=ihk (i+1) (by omega) (by omega) (m+r) (by omega) (by omega);have w1:IntKind.i64.wrap (most-m)=most-m:=dB (by omega) (by omega);have w2:IntKind.i64.wrap (m+r)=m+r:=dB (by omega) (by omega);have w3:IntKind.i64.wrap ((i:Int)+1)=((i+1:Nat):Int):=aX (by omega);refine⟨r2,?_,g2,g3⟩;rw[<- g1];simp only[L187_0,aZ,bj,cy,FA47_5,aN,Fx,EY,LD36,zx,bP,iY,h1',hm,Fu,cT,aT,ez,a8,E4,hix,LD47,EG,EH,ED,Nat.reduceAdd,En,EX,E5,dG,oQ,w1,e1,eH,w2,w3]
    ·exact⟨m,by simp[L187_0,h1',hm],hm1,hm2⟩
  obtain⟨r,e1,e2,e3⟩:=hl e.args.length 0 rfl (by omega) 1 (by omega) (by omega);refine⟨r,?_,e2,e3⟩;rw[C187];have e1':ak (L187_0 (ai pg) ak) [.int .i64 most,.ip (ab e.av),.int .i64 1,.int .i64 0]=M.pure (.int .i64 r):=e1;simp only[S187,rP,oS,e1',qG]
def Ci:∀(n:Nat)(e:Exp),SizeOf.sizeOf e<=n->e.Lim->∃b,ai pg 188 [e.av]=M.pure (.bool b):=by
 intro n
 induction n with
 |zero=>
  intro e h;cases e;simp at h
 | succ n ih=>
  intro e hs he;have hlen:=he.len;have hnl:=he.names;have end0:∃b,L188_0 (ai pg) ak (ak (L188_0 (ai pg) ak)) [.ip (ab e.av),.int .i64 (e.args.length:Int)]=M.pure (.bool b):=by
   exact⟨decide ((e.s.length:Int)<=30)&&decide ((e.m.length:Int)<=30)&&decide ((e.names.length:Int)<=12),by simp[L188_0]⟩
  obtain⟨b0,hb0⟩:=iM (FL188_0 (ai pg)) (fun k=>[.ip (ab e.av),.int .i64 (k:Int)]) e.args.length end0 (fun k hk=>by
   have h1:(k:Int)<(e.args.length:Int):=by omega
   have hix:=uN (l:=e.args) (n:=(k:Int)) (by omega) h1;rw[Ez,EI e.args k hk]at hix;have hm':=EF hk;generalize e.args[k]=f at hix hm';have hsz:=re hm';have w3:IntKind.i64.wrap ((k:Int)+1)=(k:Int)+1:=by rw[aX (by omega)];simp
   obtain⟨b,hb⟩:=ih f (by omega) (he.kid hm');cases b with
   |false=>exact .inl ⟨false,by simp[L188_0,h1,hk,hix,hb]⟩
   |true=>exact .inr (by simp[L188_0,h1,hk,hix,hb,w3])) 0 (ES _)
  have hb0':ak (L188_0 (ai pg) ak) [.ip (ab e.av),.int .i64 0]=M.pure (.bool b0):=hb0;simp only[cy]at hb0';obtain⟨b,hb⟩:=iM (FL188_1 (ai pg)) (fun k=>[.ip (ab e.av),.int .i64 (k:Int)]) e.names.length ⟨b0,by simp[L188_1,hb0']⟩ (fun k hk=>by
   have h1:(k:Int)<(e.names.length:Int):=by omega
   have hix:=uM (l:=e.names) (n:=(k:Int)) (by omega) h1;rw[Ez,EI e.names k hk]at hix;generalize e.names[k]=f at hix;have w3:IntKind.i64.wrap ((k:Int)+1)=(k:Int)+1:=by rw[aX (by omega)];simp
   by_cases h12:k<=12
   ·have h12':(k:Int)<=12:=by omega
    by_cases h30:30<f.length
    ·have h30':30<(f.length:Int):=by omega
     exact .inl ⟨false,by simp[L188_1,h1,hk,hix,h12,h12',h30,h30']⟩
    ·have h30':¬30<(f.length:Int):=by omega
     exact .inr (by simp[L188_1,h1,hk,hix,h12,h12',h30,h30',w3])
   ·have h12':¬(k:Int)<=12:=by omega
    exact .inl ⟨b0,by simp[L188_1,h1,hk,h12,h12',hb0']⟩) 0 (ES _)
  refine⟨b,?_⟩;rw[C188];have hb':ak (L188_1 (ai pg) ak) [.ip (ab e.av),.int .i64 0]=M.pure (.bool b):=hb;simp only[S188,rP,hb',dx]
def zj(e:Exp)(he:e.Lim):∃b,ai pg 127 [e.av]=M.pure (.bool b):=by
 obtain⟨r,e1,e2,e3⟩:=Ch _ e (En _) he 120 (by omega) (by omega);obtain⟨b,hb⟩:=Ci _ e (En _) he;rw[C127];by_cases h:r<=120
 ·exact⟨b,by simp[S127,e1,hb,h]⟩
 ·exact⟨false,by simp[S127,e1,h]⟩
def wk(l:List dV)(hb:l.length<=140737488355328)(ht:∀f∈l,f.2.Lim):∃b,ai pg 126 [aQ l]=M.pure (.bool b):=by
 obtain⟨b,hb⟩:=iM (FL126_0 (ai pg)) (fun k=>[aQ l,.int .i64 (k:Int)]) l.length ⟨decide ((l.length:Int)<=10),by simp[L126_0]⟩ (fun k hk=>by
  have h1:(k:Int)<(l.length:Int):=by omega
  have hix:=pM (l:=l) (n:=(k:Int)) (by omega) h1;rw[Ez,EI l k hk]at hix;have hm':=EF hk;generalize l[k]=f at hix hm';have w3:IntKind.i64.wrap ((k:Int)+1)=(k:Int)+1:=by rw[aX (by omega)];simp
  obtain⟨b,hb⟩:=Cg f.2 (ht f hm');by_cases h9:k<=10
  ·have h9':(k:Int)<=10:=by omega
   by_cases h30:30<f.1.length
   ·have h30':30<(f.1.length:Int):=by omega
    exact .inl ⟨false,by simp[L126_0,h1,hk,hix,h9,h9',h30,h30']⟩
   ·have h30':¬30<(f.1.length:Int):=by omega
    cases b with
    |false=>exact .inl ⟨false,by simp[L126_0,h1,hk,hix,hb,h9,h9',h30,h30']⟩
    |true=>exact .inr (by simp[L126_0,h1,hk,hix,hb,h9,h9',h30,h30',w3])
  ·have h9':¬(k:Int)<=10:=by omega
   exact .inl ⟨decide ((l.length:Int)<=10),by simp[L126_0,h1,hk,h9,h9']⟩) 0 (ES _)
 refine⟨b,?_⟩;rw[C126];have hb':ak (L126_0 (ai pg) ak) [aQ l,.int .i64 0]=M.pure (.bool b):=hb;simp only[S126,lh,hb',dx]
def wm(l:List Exp)(hb:l.length<=140737488355328)(ht:∀f∈l,f.Lim):∃b,ai pg 128 [ci l]=M.pure (.bool b):=by
 obtain⟨b,hb⟩:=iM (FL128_0 (ai pg)) (fun k=>[ci l,.int .i64 (k:Int)]) l.length ⟨decide ((l.length:Int)<=10),by simp[L128_0]⟩ (fun k hk=>by
  have h1:(k:Int)<(l.length:Int):=by omega
  have hix:=uN (l:=l) (n:=(k:Int)) (by omega) h1;rw[Ez,EI l k hk]at hix;have hm':=EF hk;generalize l[k]=f at hix hm';have w3:IntKind.i64.wrap ((k:Int)+1)=(k:Int)+1:=by rw[aX (by omega)];simp
  obtain⟨b,hb⟩:=zj f (ht f hm');by_cases h9:k<=10
  ·have h9':(k:Int)<=10:=by omega
   cases b with
   |false=>exact .inl ⟨false,by simp[L128_0,h1,hk,hix,hb,h9,h9']⟩
   |true=>exact .inr (by simp[L128_0,h1,hk,hix,hb,h9,h9',w3])
  ·have h9':¬(k:Int)<=10:=by omega
   exact .inl ⟨decide ((l.length:Int)<=10),by simp[L128_0,h1,hk,h9,h9']⟩) 0 (ES _)
 refine⟨b,?_⟩;rw[C128];have hb':ak (L128_0 (ai pg) ak) [ci l,.int .i64 0]=M.pure (.bool b):=hb;simp only[S128,xZ,hb',dx]
def DD(m:Ap.Mod)(hm:m.Lim):∃b,ai pg 51 [m.av]=M.pure (.bool b):=by
 have u1:=hm.uses;have f1:=hm.funcs;obtain⟨b1,e1⟩:=wk m.vars hm.vars hm.vty;obtain⟨b2,e2⟩:=wm m.init hm.init hm.ies;obtain⟨b3,e3⟩:=wk m.old hm.old hm.oty;obtain⟨b4,e4⟩:=wm m.forward hm.forward hm.fes;obtain⟨b5,e5⟩:=wm m.back hm.back hm.bes
 have end0:∃b,∀k:Nat,(k=m.uses.length\/14<k)->L51_0 (ai pg) ak (ak (L51_0 (ai pg) ak)) [.ip (ab m.av),.int .i64 (k:Int)]=M.pure (.bool b):=by
  have hg:∀k:Nat,(k=m.uses.length\/14<k)->(k<m.uses.length->¬k<=14):=by intro k h;omega
  have key:∀k:Nat,(k=m.uses.length\/14<k)->∀ {b:Bool},(L51_0 (ai pg) ak (ak (L51_0 (ai pg) ak)) [.ip (ab m.av),.int .i64 (m.uses.length:Int)]=M.pure (.bool b))->L51_0 (ai pg) ak (ak (L51_0 (ai pg) ak)) [.ip (ab m.av),.int .i64 (k:Int)]=M.pure (.bool b):=by
   intro k h b hb;rw[<- hb];by_cases hk:k<m.uses.length
   ·have h14:¬(k:Int)<=14:=by omega
    simp[L51_0,hk,h14]
   ·simp[L51_0,hk]
  have base:∃b,L51_0 (ai pg) ak (ak (L51_0 (ai pg) ak)) [.ip (ab m.av),.int .i64 (m.uses.length:Int)]=M.pure (.bool b):=by
   cases hq:(decide ((m.name.length:Int)<=30)&&decide ((m.uses.length:Int)<=14)&&decide ((m.funcs.length:Int)<=8))with
   |false=>exact⟨false,by simp[L51_0];rw[hq];simp⟩
   | true=>cases b1 with
    |false=>exact⟨false,by simp[L51_0];rw[hq];simp[e1]⟩
    | true=>cases b2 with
     |false=>exact⟨false,by simp[L51_0];rw[hq];simp[e1,e2]⟩
     | true=>cases b3 with
      |false=>exact⟨false,by simp[L51_0];rw[hq];simp[e1,e2,e3]⟩
      |true=>cases b4 with
       |false=>exact⟨false,by simp[L51_0];rw[hq];simp[e1,e2,e3,e4]⟩
       |true=>exact⟨b5,by simp[L51_0];rw[hq];simp[e1,e2,e3,e4,e5]⟩
  obtain⟨b,hb⟩:=base;exact⟨b,fun k hk=>key k hk hb⟩
 obtain⟨bE,hE⟩:=end0;obtain⟨b0,hb0⟩:=iM (FL51_0 (ai pg)) (fun k=>[.ip (ab m.av),.int .i64 (k:Int)]) m.uses.length ⟨bE,hE _ (.inl rfl)⟩ (fun k hk=>by
  have h1:(k:Int)<(m.uses.length:Int):=by omega
  have hix:=uM (l:=m.uses) (n:=(k:Int)) (by omega) h1;rw[Ez,EI m.uses k hk]at hix;generalize m.uses[k]=f at hix;have w3:IntKind.i64.wrap ((k:Int)+1)=(k:Int)+1:=by rw[aX (by omega)];simp
  by_cases h12:k<=14
  ·have h12':(k:Int)<=14:=by omega
   by_cases h30:30<f.length
   ·have h30':30<(f.length:Int):=by omega
    exact .inl ⟨false,by simp[L51_0,h1,hk,hix,h12,h12',h30,h30']⟩
   ·have h30':¬30<(f.length:Int):=by omega
    exact .inr (by simp[L51_0,h1,hk,hix,h12,h12',h30,h30',w3])
  ·exact .inl ⟨bE,hE k (.inr (by omega))⟩) 0 (ES _)
 have hb0':ak (L51_0 (ai pg) ak) [.ip (ab m.av),.int .i64 0]=M.pure (.bool b0):=hb0;simp only[cd]at hb0';obtain⟨b,hb⟩:=iM (FL51_1 (ai pg)) (fun k=>[.ip (ab m.av),.int .i64 (k:Int)]) m.funcs.length ⟨b0,by simp[L51_1,hb0']⟩ (fun k hk=>by
  have h1:(k:Int)<(m.funcs.length:Int):=by omega
  have hix:=uO (l:=m.funcs) (n:=(k:Int)) (by omega) h1;rw[Ez,EI m.funcs k hk]at hix;have hm':=EF hk;generalize m.funcs[k]=f at hix hm';have hf:=hm.fns f hm';have w3:IntKind.i64.wrap ((k:Int)+1)=(k:Int)+1:=by rw[aX (by omega)];simp
  have hcf:aV 12 f.av=M.pure f.av:=by rw[br (eR f),dJ,eM]
  obtain⟨c1,g1⟩:=wk f.params hf.params hf.pty;obtain⟨c2,g2⟩:=Cg f.result hf.result;obtain⟨c3,g3⟩:=zj f.body hf.body;by_cases h12:k<=8
  ·have h12':(k:Int)<=8:=by omega
   by_cases h30:30<f.name.length
   ·have h30':30<(f.name.length:Int):=by omega
    exact .inl ⟨false,by simp[L51_1,h1,hk,hix,h12,h12',h30,h30',hcf]⟩
   ·have h30':¬30<(f.name.length:Int):=by omega
    cases c1 with
    |false=>exact .inl ⟨false,by simp[L51_1,h1,hk,hix,h12,h12',h30,h30',hcf,g1]⟩
    | true=>cases c2 with
     |false=>exact .inl ⟨false,by simp[L51_1,h1,hk,hix,h12,h12',h30,h30',hcf,g1,g2]⟩
     |true=>cases c3 with
      |false=>exact .inl ⟨false,by simp[L51_1,h1,hk,hix,h12,h12',h30,h30',hcf,g1,g2,g3]⟩
      |true=>exact .inr (by simp[L51_1,h1,hk,hix,h12,h12',h30,h30',hcf,g1,g2,g3,w3])
  ·have h12':¬(k:Int)<=8:=by omega
   exact .inl ⟨b0,by simp[L51_1,h1,hk,h12,h12',hb0']⟩) 0 (ES _)
 refine⟨b,?_⟩;rw[C51];have hb':ak (L51_1 (ai pg) ak) [.ip (ab m.av),.int .i64 0]=M.pure (.bool b):=hb;simp only[S51,jU,hb',dx]
end Go.Proofs.YteemeakjlfnapaaGreatDoor
