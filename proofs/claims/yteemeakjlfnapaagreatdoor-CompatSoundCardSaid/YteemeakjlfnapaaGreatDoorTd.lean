/- What the functions of the seat compute, part 4: the texts of the claim, one behind the other. Conditions: bounds, as each theorem names them. -/
import Derived.Test.YteemeakjlfnapaaGreatDoorTc
import Derived.Shelf.SlGeneric
import Derived.Ground.SlsfProg
import Derived.Shelf.SlSortCmp.NoneTotal
import Derived.Test.YteemeakjlfnapaaGreatDoorRows
import Derived.Lib.LaidTab
import Derived.Stop.LaidErr
import Derived.Shelf.Vars
import Derived.ProofKit
import Derived.Deep.DeepHandedRow
import Derived.Deep.DeepWitnessRowRef
import Derived.Deep.DeepLaidRun
import Derived.Test.YteemeakjlfnapaaGreatDoorLd
set_option linter.defProp false
set_option linter.unusedSimpArgs false
set_option linter.unusedVariables false
namespace Go.Proofs.YteemeakjlfnapaaGreatDoor.F
open Go Go.Av Go.Av.Ap
set_option maxRecDepth 100000
def sD:Ann:={ kinds:=[(1,.L),(4,.S)],hl:=[16],nl:=[16,21],lw:=[2,4,8],loops:=[(0,{ vals:=[(10,none),(11,none),(12,none),(2000,none),(2001,none),(3000,none),(3001,none)],locs:=[(1,2000,0),(2,3000,0)],lbs:=[(2000,2),(3000,2)] })] }
def gC:Ann:={ iso:=false,ha:=[7] }
noncomputable def kq:List (Nat×(Func×Ann)):=[(104,(Tryz.f104,sD))]
def own:FuncId->Option Nat:=fun _=>none
noncomputable def other:FuncId->Option ((FuncId->List AV->M AV)->List AV->M AV):=fun f=>bif Nat.beq f 163 then some (cU T 25)else none
noncomputable def pg:Pg:={ T:=T,funcs:=oL kq,own:=own,other:=other,nw:=fun f=>bif Nat.beq f 163 then true else false }
def hOther:cO pg:=by
 intro f E hE call calls hc;have h0:other f=some E:=hE;unfold other at h0;rcases dl h0 with rfl|h0
 ·exact mC _ _ _ _
 cases h0
noncomputable def L104_0(call:FuncId->RR)(fx:bK AV)(a:RR)(b:List AV):M AV:=ae (af (am T BinOp.lss 3 (nth b 2) (nth b 1))) (fun c=>au c (ae (af (ak T 25 (nth b 0) (nth b 2))) (fun d=>ae (bn T 76 d) (fun e=>ae (aH 3 e) (fun f=>ae (af (aa T 76 (.ip (ab f)) 1)) (fun g=>ae (af (ai T 27 g)) (fun h=>ae (cZ (call 104 [h])) (fun i=>ae (af (ak T 25 (nth b 4) (nth b 2))) (fun j=>ae (af (aa T 76 j 1)) (fun k=>ae (bH T 27 k i) (fun l=>ae (af (am T BinOp.add 3 (nth b 2) (.int IntKind.i64 1))) (fun m=>a [nth b 0,nth b 1,m,nth b 3,nth b 4,nth b 5,nth b 6]))))))))))) (ae (aw 2 [] (.agg [nth b 3,nth b 4])) (fun n=>M.pure (AV.agg [nth (ab n) 0,nth (ab n) 1]))))
def XL104_0{call:FuncId->RR}:bF (L104_0 call aj) fun _n=>L104_0 call aj  :=by
 intro a b c d;unfold L104_0;exact (aE.bnd (aE.const _) fun _=>(ao (aE.bnd (aE.const _) fun _=>(aE.bnd (aE.const _) fun _=>(aE.bnd (aE.const _) fun _=>(aE.bnd (aE.const _) fun _=>(aE.bnd (aE.const _) fun _=>(aE.bnd (aE.const _) fun _=>(aE.bnd (aE.const _) fun _=>(aE.bnd (aE.const _) fun _=>(aE.bnd (aE.const _) fun _=>(aE.bnd (aE.const _) fun _=>c _)))))))))) (aE.const _)))
def FL104_0(call:FuncId->RR)(vs:List AV):aj (L104_0 call aj) vs=L104_0 call aj  (aj (L104_0 call aj)) vs:=aW (XL104_0) vs
noncomputable def S104(call:FuncId->RR)(fx:bK AV)(a0:AV):M AV:=ae (aH 2 a0) (fun a=>ae (call 163 [nth (ab a) 1]) (fun b=>ae (bZ b) (fun c=>ae (af (aL T 25 b)) (fun d=>fx (L104_0 call fx) [b,d,.int IntKind.i64 0,nth (ab a) 0,b,.int IntKind.i64 0,.sl []]))))
def E104(call:FuncId->List AV->M AV)(fx:bK AV)(a0:AV):bV (pg.cx call Tryz.f104.ntmps sD) fx Tryz.f104 (own 104) [a0]=S104 call fx a0:=by kernel_rfl
def C104(a0:AV):ah pg 104 [a0]=aG (S104 (ah pg) aj (cl ay a0)):=(az hOther rfl rfl rfl _).trans (GR aG (E104 _ _ (cl ay a0)))
end Go.Proofs.YteemeakjlfnapaaGreatDoor.F
namespace Go.Proofs.YteemeakjlfnapaaGreatDoor
open Go Go.Av Go.Av.Ap
set_option maxRecDepth 100000
@[simp] theorem FA24_0(cs:List AV):aa T 24 (.ip cs) 0=some (.ip (cs.drop 0)):=rfl
@[simp] theorem FH24_0(l k:Nat):aa T 24 (.hp l k) 0=some (.hp l (k+0)):=rfl
@[simp] theorem FA24_1(cs:List AV):aa T 24 (.ip cs) 1=some (.ip (cs.drop 1)):=rfl
@[simp] theorem FH24_1(l k:Nat):aa T 24 (.hp l k) 1=some (.hp l (k+1)):=rfl
@[simp] theorem FA27_0(cs:List AV):aa T 27 (.ip cs) 0=some (.ip (cs.drop 0)):=rfl
@[simp] theorem FH27_0(l k:Nat):aa T 27 (.hp l k) 0=some (.hp l (k+0)):=rfl
@[simp] theorem FA27_1(cs:List AV):aa T 27 (.ip cs) 1=some (.ip (cs.drop 1)):=rfl
@[simp] theorem FH27_1(l k:Nat):aa T 27 (.hp l k) 1=some (.hp l (k+1)):=rfl
@[simp] theorem FA29_0(cs:List AV):aa T 29 (.ip cs) 0=some (.ip (cs.drop 0)):=rfl
@[simp] theorem FH29_0(l k:Nat):aa T 29 (.hp l k) 0=some (.hp l (k+0)):=rfl
@[simp] theorem FA29_1(cs:List AV):aa T 29 (.ip cs) 1=some (.ip (cs.drop 1)):=rfl
@[simp] theorem FH29_1(l k:Nat):aa T 29 (.hp l k) 1=some (.hp l (k+1)):=rfl
@[simp] theorem FA29_2(cs:List AV):aa T 29 (.ip cs) 2=some (.ip (cs.drop 2)):=rfl
@[simp] theorem FH29_2(l k:Nat):aa T 29 (.hp l k) 2=some (.hp l (k+2)):=rfl
@[simp] theorem FA39_0(cs:List AV):aa T 39 (.ip cs) 0=some (.ip (cs.drop 0)):=rfl
@[simp] theorem FH39_0(l k:Nat):aa T 39 (.hp l k) 0=some (.hp l (k+0)):=rfl
@[simp] theorem FA39_1(cs:List AV):aa T 39 (.ip cs) 1=some (.ip (cs.drop 1)):=rfl
@[simp] theorem FH39_1(l k:Nat):aa T 39 (.hp l k) 1=some (.hp l (k+1)):=rfl
@[simp] theorem FA39_2(cs:List AV):aa T 39 (.ip cs) 2=some (.ip (cs.drop 2)):=rfl
@[simp] theorem FH39_2(l k:Nat):aa T 39 (.hp l k) 2=some (.hp l (k+2)):=rfl
@[simp] theorem FA41_0(cs:List AV):aa T 41 (.ip cs) 0=some (.ip (cs.drop 0)):=rfl
@[simp] theorem FH41_0(l k:Nat):aa T 41 (.hp l k) 0=some (.hp l (k+0)):=rfl
@[simp] theorem FA41_1(cs:List AV):aa T 41 (.ip cs) 1=some (.ip (cs.drop 1)):=rfl
@[simp] theorem FH41_1(l k:Nat):aa T 41 (.hp l k) 1=some (.hp l (k+1)):=rfl
@[simp] theorem FA41_2(cs:List AV):aa T 41 (.ip cs) 2=some (.ip (cs.drop 2)):=rfl
@[simp] theorem FH41_2(l k:Nat):aa T 41 (.hp l k) 2=some (.hp l (k+2)):=rfl
@[simp] theorem FA41_3(cs:List AV):aa T 41 (.ip cs) 3=some (.ip (cs.drop 3)):=rfl
@[simp] theorem FH41_3(l k:Nat):aa T 41 (.hp l k) 3=some (.hp l (k+3)):=rfl
@[simp] theorem FA41_4(cs:List AV):aa T 41 (.ip cs) 4=some (.ip (cs.drop 4)):=rfl
@[simp] theorem FH41_4(l k:Nat):aa T 41 (.hp l k) 4=some (.hp l (k+4)):=rfl
@[simp] theorem FA41_5(cs:List AV):aa T 41 (.ip cs) 5=some (.ip (cs.drop 5)):=rfl
@[simp] theorem FH41_5(l k:Nat):aa T 41 (.hp l k) 5=some (.hp l (k+5)):=rfl
@[simp] theorem FA41_6(cs:List AV):aa T 41 (.ip cs) 6=some (.ip (cs.drop 6)):=rfl
@[simp] theorem FH41_6(l k:Nat):aa T 41 (.hp l k) 6=some (.hp l (k+6)):=rfl
@[simp] theorem FA47_0(cs:List AV):aa T 47 (.ip cs) 0=some (.ip (cs.drop 0)):=rfl
@[simp] theorem FH47_0(l k:Nat):aa T 47 (.hp l k) 0=some (.hp l (k+0)):=rfl
@[simp] theorem FA47_1(cs:List AV):aa T 47 (.ip cs) 1=some (.ip (cs.drop 1)):=rfl
@[simp] theorem FH47_1(l k:Nat):aa T 47 (.hp l k) 1=some (.hp l (k+1)):=rfl
@[simp] theorem FA47_2(cs:List AV):aa T 47 (.ip cs) 2=some (.ip (cs.drop 2)):=rfl
@[simp] theorem FH47_2(l k:Nat):aa T 47 (.hp l k) 2=some (.hp l (k+2)):=rfl
@[simp] theorem FA47_3(cs:List AV):aa T 47 (.ip cs) 3=some (.ip (cs.drop 3)):=rfl
@[simp] theorem FH47_3(l k:Nat):aa T 47 (.hp l k) 3=some (.hp l (k+3)):=rfl
@[simp] theorem FA47_4(cs:List AV):aa T 47 (.ip cs) 4=some (.ip (cs.drop 4)):=rfl
@[simp] theorem FH47_4(l k:Nat):aa T 47 (.hp l k) 4=some (.hp l (k+4)):=rfl
@[simp] theorem FA47_5(cs:List AV):aa T 47 (.ip cs) 5=some (.ip (cs.drop 5)):=rfl
@[simp] theorem FH47_5(l k:Nat):aa T 47 (.hp l k) 5=some (.hp l (k+5)):=rfl
@[simp] theorem FA56_0(cs:List AV):aa T 56 (.ip cs) 0=some (.ip (cs.drop 0)):=rfl
@[simp] theorem FH56_0(l k:Nat):aa T 56 (.hp l k) 0=some (.hp l (k+0)):=rfl
@[simp] theorem FA56_1(cs:List AV):aa T 56 (.ip cs) 1=some (.ip (cs.drop 1)):=rfl
@[simp] theorem FH56_1(l k:Nat):aa T 56 (.hp l k) 1=some (.hp l (k+1)):=rfl
@[simp] theorem FA56_2(cs:List AV):aa T 56 (.ip cs) 2=some (.ip (cs.drop 2)):=rfl
@[simp] theorem FH56_2(l k:Nat):aa T 56 (.hp l k) 2=some (.hp l (k+2)):=rfl
@[simp] theorem FA56_3(cs:List AV):aa T 56 (.ip cs) 3=some (.ip (cs.drop 4)):=rfl
@[simp] theorem FH56_3(l k:Nat):aa T 56 (.hp l k) 3=some (.hp l (k+4)):=rfl
@[simp] theorem FA73_0(cs:List AV):aa T 73 (.ip cs) 0=some (.ip (cs.drop 0)):=rfl
@[simp] theorem FH73_0(l k:Nat):aa T 73 (.hp l k) 0=some (.hp l (k+0)):=rfl
@[simp] theorem FA73_1(cs:List AV):aa T 73 (.ip cs) 1=some (.ip (cs.drop 1)):=rfl
@[simp] theorem FH73_1(l k:Nat):aa T 73 (.hp l k) 1=some (.hp l (k+1)):=rfl
@[simp] theorem FA73_2(cs:List AV):aa T 73 (.ip cs) 2=some (.ip (cs.drop 2)):=rfl
@[simp] theorem FH73_2(l k:Nat):aa T 73 (.hp l k) 2=some (.hp l (k+2)):=rfl
@[simp] theorem FA73_3(cs:List AV):aa T 73 (.ip cs) 3=some (.ip (cs.drop 3)):=rfl
@[simp] theorem FH73_3(l k:Nat):aa T 73 (.hp l k) 3=some (.hp l (k+3)):=rfl
@[simp] theorem FA73_4(cs:List AV):aa T 73 (.ip cs) 4=some (.ip (cs.drop 5)):=rfl
@[simp] theorem FH73_4(l k:Nat):aa T 73 (.hp l k) 4=some (.hp l (k+5)):=rfl
@[simp] theorem FA73_5(cs:List AV):aa T 73 (.ip cs) 5=some (.ip (cs.drop 6)):=rfl
@[simp] theorem FH73_5(l k:Nat):aa T 73 (.hp l k) 5=some (.hp l (k+6)):=rfl
@[simp] theorem FA76_0(cs:List AV):aa T 76 (.ip cs) 0=some (.ip (cs.drop 0)):=rfl
@[simp] theorem FH76_0(l k:Nat):aa T 76 (.hp l k) 0=some (.hp l (k+0)):=rfl
@[simp] theorem FA76_1(cs:List AV):aa T 76 (.ip cs) 1=some (.ip (cs.drop 1)):=rfl
@[simp] theorem FH76_1(l k:Nat):aa T 76 (.hp l k) 1=some (.hp l (k+1)):=rfl
@[simp] theorem FA104_1(cs:List AV):aa T 104 (.ip cs) 1=some (.ip (cs.drop 1)):=rfl
@[simp] theorem FH104_1(l k:Nat):aa T 104 (.hp l k) 1=some (.hp l (k+1)):=rfl
@[simp] theorem FA141_0(cs:List AV):aa T 141 (.ip cs) 0=some (.ip (cs.drop 0)):=rfl
@[simp] theorem FH141_0(l k:Nat):aa T 141 (.hp l k) 0=some (.hp l (k+0)):=rfl
@[simp] theorem FA141_1(cs:List AV):aa T 141 (.ip cs) 1=some (.ip (cs.drop 9)):=rfl
@[simp] theorem FH141_1(l k:Nat):aa T 141 (.hp l k) 1=some (.hp l (k+9)):=rfl
@[simp] theorem FA141_2(cs:List AV):aa T 141 (.ip cs) 2=some (.ip (cs.drop 10)):=rfl
@[simp] theorem FH141_2(l k:Nat):aa T 141 (.hp l k) 2=some (.hp l (k+10)):=rfl
@[simp] theorem FA149_0(cs:List AV):aa T 149 (.ip cs) 0=some (.ip (cs.drop 0)):=rfl
@[simp] theorem FH149_0(l k:Nat):aa T 149 (.hp l k) 0=some (.hp l (k+0)):=rfl
@[simp] theorem FA149_1(cs:List AV):aa T 149 (.ip cs) 1=some (.ip (cs.drop 2)):=rfl
@[simp] theorem FH149_1(l k:Nat):aa T 149 (.hp l k) 1=some (.hp l (k+2)):=rfl
@[simp] theorem FA225_0(cs:List AV):aa T 225 (.ip cs) 0=some (.ip (cs.drop 0)):=rfl
@[simp] theorem FH225_0(l k:Nat):aa T 225 (.hp l k) 0=some (.hp l (k+0)):=rfl
@[simp] theorem FA225_1(cs:List AV):aa T 225 (.ip cs) 1=some (.ip (cs.drop 1)):=rfl
@[simp] theorem FH225_1(l k:Nat):aa T 225 (.hp l k) 1=some (.hp l (k+1)):=rfl
@[simp] theorem FA225_2(cs:List AV):aa T 225 (.ip cs) 2=some (.ip (cs.drop 2)):=rfl
@[simp] theorem FH225_2(l k:Nat):aa T 225 (.hp l k) 2=some (.hp l (k+2)):=rfl
@[simp] theorem LD3(x:AV)(l:List AV):ai T 3 (.ip (x:: l))=some x:=rfl
@[simp] theorem LD4(x:AV)(l:List AV):ai T 4 (.ip (x:: l))=some x:=rfl
@[simp] theorem LD9(x:AV)(l:List AV):ai T 9 (.ip (x:: l))=some x:=rfl
@[simp] theorem LD22(x:AV)(l:List AV):ai T 22 (.ip (x:: l))=some x:=rfl
@[simp] theorem LD24(cs:List AV):ai T 24 (.ip cs)=if 2<=cs.length then some (.agg (cs.take 2))else none:=rfl
@[simp] theorem LD25(x:AV)(l:List AV):ai T 25 (.ip (x:: l))=some x:=rfl
@[simp] theorem LD27(cs:List AV):ai T 27 (.ip cs)=if 2<=cs.length then some (.agg (cs.take 2))else none:=rfl
@[simp] theorem LD29(cs:List AV):ai T 29 (.ip cs)=if 3<=cs.length then some (.agg (cs.take 3))else none:=rfl
@[simp] theorem LD35(x:AV)(l:List AV):ai T 35 (.ip (x:: l))=some x:=rfl
@[simp] theorem LD36(x:AV)(l:List AV):ai T 36 (.ip (x:: l))=some x:=rfl
@[simp] theorem LD37(x:AV)(l:List AV):ai T 37 (.ip (x:: l))=some x:=rfl
@[simp] theorem LD41(cs:List AV):ai T 41 (.ip cs)=if 9<=cs.length then some (.agg (cs.take 9))else none:=rfl
@[simp] theorem LD47(cs:List AV):ai T 47 (.ip cs)=if 6<=cs.length then some (.agg (cs.take 6))else none:=rfl
@[simp] theorem LD54(x:AV)(l:List AV):ai T 54 (.ip (x:: l))=some x:=rfl
@[simp] theorem LD56(cs:List AV):ai T 56 (.ip cs)=if 5<=cs.length then some (.agg (cs.take 5))else none:=rfl
@[simp] theorem LD73(cs:List AV):ai T 73 (.ip cs)=if 12<=cs.length then some (.agg (cs.take 12))else none:=rfl
@[simp] theorem LD76(cs:List AV):ai T 76 (.ip cs)=if 3<=cs.length then some (.agg (cs.take 3))else none:=rfl
@[simp] theorem LD102(x:AV)(l:List AV):ai T 102 (.ip (x:: l))=some x:=rfl
@[simp] theorem LD139(x:AV)(l:List AV):ai T 139 (.ip (x:: l))=some x:=rfl
@[simp] theorem LD225(cs:List AV):ai T 225 (.ip cs)=if 3<=cs.length then some (.agg (cs.take 3))else none:=rfl
@[simp] theorem Fj(s:bA):aL T 9 (.str s)=some (.int .i64 s.length):=rfl
@[simp] theorem Dl(es:List AV):aL T 22 (.sl es)=some (.int .i64 es.length):=rfl
@[simp] theorem Fw:aL T 22 .hn=some (.int .i64 0):=rfl
@[simp] theorem Fp(l k n s:Nat)(a:Bool):aL T 22 (.hs l k n s a)=some (.int .i64 n):=rfl
@[simp] theorem Fl(l:List Sig):aL T 22 (sigs l)=some (.int .i64 l.length):=(Dl _).trans (by simp)
@[simp] theorem Au(es:List AV):aL T 25 (.sl es)=some (.int .i64 es.length):=rfl
@[simp] theorem Fx:aL T 25 .hn=some (.int .i64 0):=rfl
@[simp] theorem Bp(l k n s:Nat)(a:Bool):aL T 25 (.hs l k n s a)=some (.int .i64 n):=rfl
@[simp] theorem vZ(l:List br):aL T 25 (aC l)=some (.int .i64 l.length):=(Au _).trans (by simp[cE])
@[simp] theorem Dm(es:List AV):aL T 35 (.sl es)=some (.int .i64 es.length):=rfl
@[simp] theorem Fy:aL T 35 .hn=some (.int .i64 0):=rfl
@[simp] theorem Fq(l k n s:Nat)(a:Bool):aL T 35 (.hs l k n s a)=some (.int .i64 n):=rfl
@[simp] theorem wa(l:List bA):aL T 35 (strs l)=some (.int .i64 l.length):=(Dm _).trans (by simp)
@[simp] theorem Dn(es:List AV):aL T 36 (.sl es)=some (.int .i64 es.length):=rfl
@[simp] theorem Fz:aL T 36 .hn=some (.int .i64 0):=rfl
@[simp] theorem Ft(l k n s:Nat)(a:Bool):aL T 36 (.hs l k n s a)=some (.int .i64 n):=rfl
@[simp] theorem wb(l:List Exp):aL T 36 (cj l)=some (.int .i64 l.length):=(Dn _).trans (by simp[fL])
@[simp] theorem Do(es:List AV):aL T 37 (.sl es)=some (.int .i64 es.length):=rfl
@[simp] theorem FA:aL T 37 .hn=some (.int .i64 0):=rfl
@[simp] theorem Fu(l k n s:Nat)(a:Bool):aL T 37 (.hs l k n s a)=some (.int .i64 n):=rfl
@[simp] theorem Bn(l:List Fun):aL T 37 (fQ l)=some (.int .i64 l.length):=(Do _).trans (by simp)
@[simp] theorem Aw(es:List AV):aL T 54 (.sl es)=some (.int .i64 es.length):=rfl
@[simp] theorem FB:aL T 54 .hn=some (.int .i64 0):=rfl
@[simp] theorem Bq(l k n s:Nat)(a:Bool):aL T 54 (.hs l k n s a)=some (.int .i64 n):=rfl
@[simp] theorem Fo(l:List Ty):aL T 54 (dR l)=some (.int .i64 l.length):=(Aw _).trans (by simp)
@[simp] theorem Dp(es:List AV):aL T 78 (.sl es)=some (.int .i64 es.length):=rfl
@[simp] theorem FC:aL T 78 .hn=some (.int .i64 0):=rfl
@[simp] theorem Fv(l k n s:Nat)(a:Bool):aL T 78 (.hs l k n s a)=some (.int .i64 n):=rfl
@[simp] theorem Bo(l:List Face):aL T 78 (faces l)=some (.int .i64 l.length):=(Dp _).trans (by simp)
@[simp] theorem Fh(es:List AV):aL T 102 (.sl es)=some (.int .i64 es.length):=rfl
@[simp] theorem EY:aL T 102 .hn=some (.int .i64 0):=rfl
@[simp] theorem EV(l k n s:Nat)(a:Bool):aL T 102 (.hs l k n s a)=some (.int .i64 n):=rfl
@[simp] theorem Bm(es:List AV):aL T 196 (.sl es)=some (.int .i64 es.length):=rfl
@[simp] theorem EZ:aL T 196 .hn=some (.int .i64 0):=rfl
@[simp] theorem EW(l k n s:Nat)(a:Bool):aL T 196 (.hs l k n s a)=some (.int .i64 n):=rfl
@[simp] theorem EU(l:List Int):aL T 196 (ints l)=some (.int .i64 l.length):=(Bm _).trans (by simp)
@[simp] theorem Fi(es:List AV):aL T 222 (.sl es)=some (.int .i64 es.length):=rfl
@[simp] theorem E0:aL T 222 .hn=some (.int .i64 0):=rfl
@[simp] theorem EX(l k n s:Nat)(a:Bool):aL T 222 (.hs l k n s a)=some (.int .i64 n):=rfl
def qD{l:List Sig}{n:Int}(h0:0<=n)(h:n<(l.length:Int)):ak T 22 (sigs l) (.int .i64 n)=some (.ip (ab (Sig.av l[n.toNat]!))):=cF (T:=T) (t:=22) (e:=56) rfl rfl rfl (fun _=>by first|rfl|(simp;done)|(simp;rfl)) h0 h
def lX{l:List br}{n:Int}(h0:0<=n)(h:n<(l.length:Int)):ak T 25 (aC l) (.int .i64 n)=some (.ip (ab (ba l[n.toNat]!))):=by rw[aC,cE];exact cF (T:=T) (t:=25) (e:=76) rfl rfl rfl (fun _=>by first|rfl|(simp;done)|(simp;rfl)) h0 h
def qE{l:List bA}{n:Int}(h0:0<=n)(h:n<(l.length:Int)):ak T 35 (strs l) (.int .i64 n)=some (.ip (ab (AV.str l[n.toNat]!))):=cF (T:=T) (t:=35) (e:=9) rfl rfl rfl (fun _=>by first|rfl|(simp;done)|(simp;rfl)) h0 h
def lY{l:List Exp}{n:Int}(h0:0<=n)(h:n<(l.length:Int)):ak T 36 (cj l) (.int .i64 n)=some (.ip (ab (Exp.av l[n.toNat]!))):=by rw[cj,fL];exact cF (T:=T) (t:=36) (e:=47) rfl rfl rfl (fun _=>by first|rfl|(simp;done)|(simp;rfl)) h0 h
def vY{l:List Fun}{n:Int}(h0:0<=n)(h:n<(l.length:Int)):ak T 37 (fQ l) (.int .i64 n)=some (.ip (ab (Fun.av l[n.toNat]!))):=cF (T:=T) (t:=37) (e:=73) rfl rfl rfl (fun _=>by first|rfl|(simp;done)|(simp;rfl)) h0 h
def mf{l:List Ty}{n:Int}(h0:0<=n)(h:n<(l.length:Int)):ak T 54 (dR l) (.int .i64 n)=some (.ip (ab (Ty.av l[n.toNat]!))):=cF (T:=T) (t:=54) (e:=27) rfl rfl rfl (fun _=>by first|rfl|(simp;done)|(simp;rfl)) h0 h
def Fg{l:List Face}{n:Int}(h0:0<=n)(h:n<(l.length:Int)):ak T 78 (faces l) (.int .i64 n)=some (.ip (ab (Face.av l[n.toNat]!))):=cF (T:=T) (t:=78) (e:=24) rfl rfl rfl (fun _=>by first|rfl|(simp;done)|(simp;rfl)) h0 h
def Bi{a b:List br}(h:(a.length+b.length)*48<=140737488355328):d8 T 25 (aC a) (aC b)=some (aC (a++b)):=by
 have:=qL (T:=T) (t:=25) (e:=76) rfl rfl rfl (f:=ba) (fun _=>by first|rfl|(simp;done)|(simp;rfl)) (a:=a) (b:=b) h (by decide)
 simpa [aC,cE]using this
def Di{a b:List Ty}(h:(a.length+b.length)*32<=140737488355328):d8 T 54 (dR a) (dR b)=some (dR (a++b)):=by
 have:=qL (T:=T) (t:=54) (e:=27) rfl rfl rfl (f:=Ty.av) (fun _=>by first|rfl|(simp;done)|(simp;rfl)) (a:=a) (b:=b) h (by decide)
 simpa [dR]using this
def D5(e:AV)(es:List AV):bV (qX Tryz.f163.ntmps gC) (cq 0) Tryz.f163 (some 3) [.sl (e:: es)]=ae (af (d8 T 25 (.sl []) (.sl (e:: es)))) fun v=>ae (af (some v)) M.pure:=by kernel_rfl
def D6:bV (qX Tryz.f163.ntmps gC) (cq 0) Tryz.f163 (some 3) [.hn]=ae (af (some (.sl []))) M.pure:=by kernel_rfl
def D7(l off:Nat):bV (qX Tryz.f163.ntmps gC) (cq 0) Tryz.f163 (some 3) [.hs l off 0 1 false]=ae (af (d8 T 25 (.sl []) (.hs l off 0 1 false))) fun v=>ae (af (some v)) M.pure:=by kernel_rfl
def D8(l off:Nat):d8 T 25 (.sl []) (.hs l off 0 1 false)=some (.sl []):=by rfl
def tv(call:FuncId->List AV->M AV)(args:List AV)(h:Hp)(S:ax)(β:List bo)(w:World)(vs:List Value)(hr:gK T 25 call args h≠.fail)(hg:nR β h w)(hw:Wf S w)(hh:cw S β w h)(hv:aX S β args vs):
  Calls Tryz.prog 163 vs.toArray w (c5 (some 3) S β h w (gK T 25 call args h)):=by
 have key:∀es,args=[.sl es]->Calls Tryz.prog 163 vs.toArray w (c5 (some 3) S β h w (gK T 25 call args h)):=by
  rintro es rfl;exact (io (cx:=qX Tryz.f163.ntmps gC) (own:=some 3) (E:=fun es h=>gK T 25 call [.sl es] h) tok (kF _ _) (pM _ _) Tryz.func163 rfl (fun h=>by rfl) (fun e es h=>by rw[D5];exact JF (sI _) h) (fun h=>by rw[D6];rfl) (fun l off h=>by rw[D7,D8];rfl) hr hg hw hh hv).1
 unfold gK at hr;split at hr
 ·exact key _ rfl
 ·exact absurd rfl hr
end Go.Proofs.YteemeakjlfnapaaGreatDoor
namespace Go.Proofs.YteemeakjlfnapaaGreatDoor.F
open Go Go.Av Go.Av.Ap
set_option maxRecDepth 100000
def Ek(e:AV)(es:List AV):bV (qX Tryz.f163.ntmps gC) (cq 0) Tryz.f163 none [.sl (e:: es)]=ae (appH T 25 true (.sl []) (.sl (e:: es))) fun v=>ae (af (some v)) M.pure:=by kernel_rfl
def El:bV (qX Tryz.f163.ntmps gC) (cq 0) Tryz.f163 none [.hn]=ae (af (some (.sl []))) M.pure:=by kernel_rfl
def Em(l off:Nat):bV (qX Tryz.f163.ntmps gC) (cq 0) Tryz.f163 none [.hs l off 0 1 false]=ae (appH T 25 true (.sl []) (.hs l off 0 1 false)) fun v=>ae (af (some v)) M.pure:=by kernel_rfl
def tv(call:FuncId->List AV->M AV)(args:List AV)(h:Hp)(S:ax)(β:List bo)(w:World)(vs:List Value)(hr:cU T 25 call args h≠.fail)(hg:nR β h w)(hw:Wf S w)(hh:cw S β w h)(hv:aX S β args vs):
  Calls Tryz.prog 163 vs.toArray w (c5 none S β h w (cU T 25 call args h)):=by
 have key:∀es,args=[.sl es]->Calls Tryz.prog 163 vs.toArray w (c5 none S β h w (cU T 25 call args h)):=by
  rintro es rfl;exact (io (cx:=qX Tryz.f163.ntmps gC) (E:=fun es h=>cU T 25 call [.sl es] h) tok (kF _ _) (pM _ _) Tryz.func163 rfl (fun h=>by rfl) (fun e es h=>by rw[Ek];exact JF (sI _) h) (fun h=>by rw[El];rfl) (fun l off h=>by rw[Em];rfl) hr hg hw hh hv).1
 unfold cU at hr;split at hr
 ·exact key _ rfl
 ·exact absurd rfl hr
def qw:(kq.map fun x=>Tryz.prog.funcs[x.1]?)=kq.map fun x=>some x.2.1:=by kernel_rfl
def jK:(kq.map fun x=>x.2.1.name== "runtime.NumGoroutine")=kq.map fun _=>false:=by kernel_rfl
def FE{f k:Nat}{α:Type}{x y:α}{o:Option α}(h:(bif Nat.beq f k then some x else o)=some y):(f=k/\x=y)\/o=some y:=by
 cases hb:Nat.beq f k with
 |true=>rw[hb]at h;exact .inl ⟨GN hb,by simpa using h⟩
 |false=>rw[hb]at h;exact .inr h
def good:GoodPg Tryz.prog pg where
 tok:=tok
 funcs:=fun f fn a h=>by
  have:=kJ kq f (fn,a) h
  exact⟨eL qw _ this,eL jK _ this⟩
 other:=by
  intro f E hE call hC args h S β w vs hr hg hw hh hv;have h0:other f=some E:=hE;unfold other at h0;rcases FE h0 with⟨rfl,rfl⟩|h0
  ·exact⟨tv call args h S β w vs hr hg hw hh hv,by kernel_rfl⟩
  cases h0
 nw:=by
  intro f hf;have h0:(bif Nat.beq f 163 then true else false)=true:=hf;cases hb:Nat.beq f 163 with
  |true=>
   have:=GN hb
   subst this;exact⟨_,rfl,fun call args=>oG _ _ _ _⟩
  |false=>rw[hb]at h0;cases h0
def aF{α β:Type}{m:M α}{a:α}{h h':Hp}(e:m h= .ok a h')(f:α->M β):ae m f h=f a h':=by simp only[ae,e]
def A5(x:br):(ab (ba x)).length=3:=by simp
def iw(l:List br):aC l= .sl (l.map ba):=by rw[aC,cE]
def yp{q:Nat}{l:List br}{i:Nat}{h:Hp}(hi:i<l.length)(hq:h[q]? = some (rowOf ba l)):bn T 76 (.hp q (0+i*3)) h= .ok (ba l[i]) h:=by
 have hlen:=eR (f:=ba) A5 l;rw[oX (T:=T) (t:=76) rfl rfl hq (show 0+i*3+3<=_ by omega)];show R.ok (AV.agg (((rowOf ba l).drop (0+i*3)).take 3)) h=_;rw[G1,d7 A5 l i hi,cC,fO]
def yW{q:Nat}{l:List br}{i:Nat}{h:Hp}(hi:i<l.length)(hq:h[q]? = some (rowOf ba l)):bH T 27 (.hp q (0+i*3+1)) l[i].2.av h= .ok (.tup []) h:=by
 have hlen:=eR (f:=ba) A5 l;refine lV (T:=T) (t:=27) rfl hq (Ap.gU _) (show 0+i*3+1+2<=_ by omega) (by decide) ?_
 have:=d7 A5 l i hi
 have h2:((rowOf ba l).drop (0+i*3+1)).take 2=(((rowOf ba l).drop (i*3)).take 3).drop 1:=by
  rw[List.drop_take,Jd];congr 2;omega
 rw[bG];show ((rowOf ba l).drop (0+i*3+1)).take 2=_;rw[h2,this,cC];rfl
theorem Gq{q n i:Nat}(h:i<n):ak T 25 (.hs q 0 n 3 true) (.int .i64 (i:Int))=some (.hp q (0+i*3)):=by
 have e:ak T 25 (.hs q 0 n 3 true) (.int .i64 (i:Int))=if 0<=(i:Int)/\(i:Int)<(n:Int)then some (.hp q (0+(i:Int).toNat*3))else none:=rfl;rw[e,GM (by omega),GP]
def zW(t:Ty)(hb:t.fields.length<=4611686018427387904)(hk:∀f∈t.fields,ah pg 104 [f.2.av]=M.pure f.2.av)(q:Nat)(h:Hp)(hq:h[q]? = some (rowOf ba t.fields))(x5 x6:AV):∀(n i:Nat),t.fields.length-i=n->i<=t.fields.length->
  aj (L104_0 (ah pg) aj) [.hs q 0 t.fields.length 3 true,.int .i64 t.fields.length,.int .i64 i,.int .i64 t.kind,.hs q 0 t.fields.length 3 true,x5,x6] h= .ok (.agg [.int .i64 t.kind,.hs q 0 t.fields.length 3 true]) h:=by
 intro n
 induction n with
 |zero=>
  intro i hn hi;rw[FL104_0];have h1:¬((i:Int)<(t.fields.length:Int)):=by omega
  have h2:aw 2 [] (.agg [.int .i64 t.kind,.hs q 0 t.fields.length 3 true])=M.pure (.agg [.int .i64 t.kind,.hs q 0 t.fields.length 3 true]):=aY rfl;simp[L104_0,h1,h2,M.pure]
 |succ n ih=>
  intro i hn hi;have hlt:i<t.fields.length:=by omega
  have h1:(i:Int)<(t.fields.length:Int):=by omega
  have ih':=ih (i+1) (by omega) (by omega);have hw:IntKind.i64.wrap ((i:Int)+1)=((i+1:Nat):Int):=aK (by omega);have hc:=hk t.fields[i] (GQ hlt);rw[<- ih'];generalize hcode:aj (L104_0 (ah pg) aj) [.hs q 0 t.fields.length 3 true,.int .i64 t.fields.length,.int .i64 i,.int .i64 t.kind,.hs q 0 t.fields.length 3 true,x5,x6] h=code;rw[FL104_0]at hcode;simp -implicitDefEqProofs only[L104_0,bc,bm,bT,aI,aZ,h1,HB,Hk,Gq hlt]at hcode;rw[aF (yp hlt hq)]at hcode;simp -implicitDefEqProofs only[sO,aR,cC,FA76_1,aI,HH,Hi,LD27,GY,G4,G1,Nat.reduceAdd,GL,Hk,Hb,Hn,cu,hc,eM,FH76_1]at hcode;rw[show (i*3+1)=0+i*3+1 by omega]at hcode;rw[aF (yW hlt hq)]at hcode;simp -implicitDefEqProofs only[dL,aI,hw]at hcode;rw[<- hcode]
theorem t104:∀(d:Nat)(t:Ty),rJ d t->ah pg 104 [t.av]=M.pure t.av
 |0,t,h=>h.elim
 | d+1,t,h=>by
  have hlen:t.fields.length<=100:=h.1;have ih:∀f∈t.fields,ah pg 104 [f.2.av]=M.pure f.2.av:=fun f hf=>t104 d f.2 (h.2 f hf);have e0:ah pg 163 [aC t.fields]=cU T 25 (ah pg) [aC t.fields]:=dV hOther rfl _;have e1:=mD (T:=T) (t:=25) (f:=ba) (sz:=3) rfl rfl rfl rfl rfl (by decide) (by decide) (fun x=>fS x) (ah pg) t.fields (show t.fields.length*48<=140737488355328 by omega) [];rw[<- iw,<- e0]at e1;rw[C104];funext hp;show aG _ hp=R.ok t.av hp;by_cases hf:t.fields=[]
  ·rw[GM hf]at e1;have e2:aw 2 [] (.agg [.int .i64 t.kind,.sl []])=M.pure (.agg [.int .i64 t.kind,.sl []]):=aY rfl;have key:S104 (ah pg) aj (cl ay t.av) []= .ok (.agg [.int .i64 t.kind,.sl []]) []:=by
    simp only[S104,lx,dW,aR,bG,bc,bm];rw[aF e1];simp only[bZ,bd,GK,aI,Au];rw[FL104_0];simp[L104_0,e2,M.pure]
   unfold aG;rw[key];have:(AV.agg [.int .i64 t.kind,.sl []])=t.av:=by rw[<- cu,hf];rfl
   rw[this];simp only[R.ok.injEq,Jt];exact (Clean.frz (fun g=>lx g t) 6 [])
  ·rw[if_neg hf]at e1;have hq:([]++[rowOf ba t.fields]:Hp)[0]? = some (rowOf ba t.fields):=rfl;have key:S104 (ah pg) aj (cl ay t.av) []= .ok (.agg [.int .i64 t.kind,.hs 0 0 t.fields.length 3 true]) ([]++[rowOf ba t.fields]):=by
    simp only[S104,lx,dW,aR,bG,bc,bm];rw[aF e1];simp only[bZ,bd,GK,aI,Bp,G4];exact zW t (by omega) ih 0 _ hq _ _ t.fields.length 0 rfl (by omega)
   unfold aG;rw[key];have hfr:=kL (f:=ba) A5 (fun x=>by rw[cC,fO]) (fun x g=>xB g x) (by decide) hq 5;have:f7 6 ([]++[rowOf ba t.fields]) (.agg [.int .i64 t.kind,.hs 0 0 t.fields.length 3 true])=t.av:=by
    rw[<- cu,iw,<- hfr];rfl
   show R.ok (f7 6 _ _) hp=_;rw[this]
end Go.Proofs.YteemeakjlfnapaaGreatDoor.F
namespace Go.Proofs.YteemeakjlfnapaaGreatDoor
open Go Go.Av Go.Av.Ap
def Cy(call:FuncId->List AV->M AV)(args:List AV)(h:Hp)(S:ax)(β:List bo)(w:World)(vs:List Value)(hr:iS call args h≠.fail)(hg:nR β h w)(hw:Wf S w)(hh:cw S β w h)(hv:aX S β args vs):
  Calls Tryz.prog 104 vs.toArray w (c5 none S β h w (iS call args h)):=by
 unfold iS at hr |-;split at hr
 ·rename_i v;cases hc:Aq 5 v with
  |false=>rw[hc]at hr;exact absurd rfl hr
  |true=>
   obtain⟨t,rfl,ht⟩:=sg 5 v hc;have e:=JF (F.t104 5 t ht) h
   have:=(lv F.good F.hOther 104 [t.av] h S β w vs (by rw[e];simp[M.pure]) hg hw hh hv).1
   rw[e]at this;exact this
 ·exact absurd rfl hr
theorem oY:∀(d:Nat)(t:Ty),cL d t=true->rJ d t
 |0,t,h=>by cases h
 |d+1,t,h=>by
  rw[fh]at h;simp only[GJ,GX,GT]at h;exact⟨by have:=h.1.1.2;omega,fun f hf=>oY d f.2 (h.2.1 f hf).2⟩
end Go.Proofs.YteemeakjlfnapaaGreatDoor
namespace Go.Proofs
open Go.Shelf
end Go.Proofs
namespace Go.Proofs.YteemeakjlfnapaaGreatDoor.D
open Go Go.Av Go.Av.Ap
set_option maxRecDepth 100000
noncomputable def pg:Pg:={ T:=T,funcs:=oL kq,own:=own,other:=fun _=>none }
def hOther:cO pg:=fun f E h=>by cases h
@[simp] theorem Fc(t:Nat)(a b:bA):am T .gtr t (.str a) (.str b)=some (.bool !(aV a b||a== b)):=rfl
def good:@GoodPg ⟨True⟩ Tryz.prog pg:=by
 letI:Dr:=⟨True⟩
 exact⟨tok,rn,(fun f E h=>by cases h),(fun f h=>by cases h)⟩
end Go.Proofs.YteemeakjlfnapaaGreatDoor.D
namespace Go.Proofs.YteemeakjlfnapaaGreatDoor
open Go Go.Av Go.Av.Ap Go.RowKit Go.Sort
set_option maxRecDepth 1000000
end Go.Proofs.YteemeakjlfnapaaGreatDoor
namespace Go.Proofs.YteemeakjlfnapaaGreatDoor
open Go Go.Av Go.RowKit
set_option maxRecDepth 100000
def FF{α:Type}{f k:Nat}{x:α}{o:Option α}{y:α}(h:(bif Nat.beq f k then some x else o)=some y):(f=k/\x=y)\/o=some y:=by
 cases hb:Nat.beq f k with
 |true=>rw[hb]at h;exact .inl ⟨GN hb,by simpa using h⟩
 |false=>rw[hb]at h;exact .inr h
def xq{α:Type}{f k:Nat}{x y:α}{o:Option α}{P:Prop}(h1:f=k->x=y->P)(h2:o=some y->P)(h:(bif Nat.beq f k then some x else o)=some y):P:=(FF h).elim (fun h=>h1 h.1 h.2) h2
def good:GoodPg Tryz.prog pg where
 tok:=tok
 funcs:=rn
 other:=by
  intro f E hE call hC args h S β w vs hr hg hw hh hv;have h0:other f=some E:=hE;unfold other at h0;revert h0
  repeat' refine xq ?_ ?_
  all_goals first
   |(intro h0;cases h0;done)
   |(rintro rfl rfl;exact absurd rfl hr)
   |(rintro rfl rfl;exact⟨EC call args h S β w vs hr hg hw hh hv,by kernel_rfl⟩)
   |(rintro rfl rfl;exact⟨Cw call args h S β w vs hr hg hw hh hv,by kernel_rfl⟩)
   |(rintro rfl rfl;exact⟨Cz call args h S β w vs hr hg hw hh hv,by kernel_rfl⟩)
   |(rintro rfl rfl;exact⟨CB call args h S β w vs hr hg hw hh hv,by kernel_rfl⟩)
   |(rintro rfl rfl;exact⟨CE call args h S β w vs hr hg hw hh hv,by kernel_rfl⟩)
   |(rintro rfl rfl;exact⟨tv call args h S β w vs hr hg hw hh hv,by kernel_rfl⟩)
   |(rintro rfl rfl;exact⟨Cy call args h S β w vs hr hg hw hh hv,by kernel_rfl⟩)
   |(rintro rfl rfl;exact⟨CF call args h S β w vs hr hg hw hh hv,by kernel_rfl⟩)
   |(rintro rfl rfl;exact⟨CG call args h S β w vs hr hg hw hh hv,by kernel_rfl⟩)
 nw:=by
  intro f hf;have h0:(bif Nat.beq f 103 then true else false)=true:=hf;cases hb:Nat.beq f 103 with
  |true=>
   have:=GN hb
   subst this;exact⟨_,rfl,oG T 54⟩
  |false=>rw[hb]at h0;cases h0
end Go.Proofs.YteemeakjlfnapaaGreatDoor
namespace Go.Proofs.YteemeakjlfnapaaGreatDoor
open Go Go.Av Go.ChangeShapes Go.WideShapes Go.ChangeAt Go.RowKit
set_option maxRecDepth 1000000
def FU:ownKnob Tryz.prog.godebug=none:=by kernel_rfl
def Ci{W:World}(hL:laidMetH Tryz.prog Rows.compatClaimsRow.laid W)(hS:W.ShapedOpen Tryz.prog):GOKw W:=by
 have h0:laidMet Tryz.prog Rows.compatClaimsRow.laid W:=hL;have h1:=h0.tail;have h2:=h1.tail;have h3:=h2.tail;have h4:=h3.tail;have hp:=Lib.tabIs_of_head (k:=.u64) (zs:=Lib.pow10Tab) (g:=3) (t:=278) (e:=214) (n:=20) (by kernel_rfl) (by kernel_rfl) (by kernel_rfl) (by kernel_rfl) (by kernel_rfl) (by kernel_rfl) h2;have ha:=Lib.tabIs_of_head (k:=.u8) (zs:=Lib.asciiSpaceTab) (g:=0) (t:=228) (e:=5) (n:=256) (by kernel_rfl) (by kernel_rfl) (by kernel_rfl) (by kernel_rfl) (by kernel_rfl) (by kernel_rfl) h4;have hvar:∀ {name:String} {g:Nat} {cs:Array Value},Tryz.prog.globalNamed name=some g->W.var? Tryz.prog name=some cs->∃t fr,W.heap[g]? = some (.cells cs t fr):=by
  intro name g cs hn hv;unfold World.var? at hv;rw[hn]at hv;simp only[Il]at hv;split at hv
  ·rename_i c t fr hh;simp only[GI]at hv;subst hv;exact⟨t,fr,hh⟩
  ·cases hv
 refine⟨hvar (by kernel_rfl) ha,?_,hvar (by kernel_rfl) hp⟩;exact cell_of_shapedOpen_int (zero:=#[.int .i64 0]) (t:=3) hS (Ie (by kernel_rfl)) (by kernel_rfl) rfl (by kernel_rfl) (by kernel_rfl) Tryz.underlying3
mutual
def iq:DataW Unit->List Value
 |.lit (.bool b)=>[.bool b]
 |.lit (.int k n)=>[.int k n]
 |.lit (.string s)=>[.string ⟨s.toArray⟩]
 |.agg ps=>xI ps
 |_=>[]
def xI:List (DataW Unit)->List Value
 |[]=>[]
 |d:: ds=>iq d++xI ds
end
def tx:List Value:=[9,13,1,32,133,101,160,5760,5600,8192,8202,1,8232,8233,1,8239,8287,48,12288,12288,1].map (Value.int .u16)
noncomputable def low:Nat:=(World.holding Tryz.prog default ⟨#[],#[],[]⟩).heap.size
noncomputable def y9:List (Option (Array Value)):=[some (iq Rows.laid_strings_asciiSpace).toArray,some #[.pointer (some ⟨low,0,none⟩)],
 none,some (iq Rows.laid_internal_strconv_uint64pow10).toArray,none,none,some (iq Rows.laid_math_bits_deBruijn32tab).toArray,some (iq Rows.laid_math_bits_deBruijn64tab).toArray]
def qg:List Obj->List (Option (Array Value))->List Obj
 |.cells _ t fr:: os,some c:: cs=>.cells c t fr:: qg os cs
 |o:: os,_:: cs=>o:: qg os cs
 |os,[]=>os
 |[],_=>[]
noncomputable def kQ(os:Os):World:=
 let w0:=World.holding Tryz.prog os ⟨#[.cells #[.slice (some ⟨low+1,0,none⟩) 7 7,.slice none 0 0,.int .i64 2] 267,.cells tx.toArray 270],#[],[]⟩
 { w0 with heap:=(qg w0.heap.toList y9).toArray }
def yh(os:Os)(args:Array Value):laidMet Tryz.prog Rows.compatClaimsRow.laid ((kQ os).forCall (fun _ _=>0) ⟨#[],args,[]⟩).memory:=
 laidMet_of_run3 8 (by kernel_rfl) (by kernel_rfl) (by kernel_rfl)
end Go.Proofs.YteemeakjlfnapaaGreatDoor
namespace Go.Proofs.YteemeakjlfnapaaGreatDoor
open Go Go.Av Go.Av.Ap Go.RowKit
set_option maxRecDepth 1000000
section
variable {H:Type} {enc:TypeId×Value->H} {W:World}
theorem gx:reachBytes=140737488351232:=rfl
theorem Ty.lim_mk{k:Int}{fs:List br}(h2:fs.length<=140737488355328)(h3:∀v∈fs,v.2.Lim):(Ty.mk k fs).Lim:=fun j=>match j with
 |0=>trivial
 |j+1=>⟨h2,fun x hx=>h3 x hx j⟩
theorem nq{N:Nat}(h:Rd enc Tryz.prog W N 27 (fun v:Ty=>v.cells) Ty.Lim):Rd enc Tryz.prog W (N+1) 25 (fun l:List br=>[aC l]) (fun l=>l.length<=140737488355328/\∀v∈l,v.2.Lim):=
 (gw ((dZ Tryz.underlying76 (by kernel_rfl) (aP (iK Tryz.underlying9) rfl (by kernel_rfl:_=1) (aP h rfl (by kernel_rfl:_=2) fg))).map (fun x=>((x.1,x.2.1):br)) (cells':=fun f=>ab (ba f)) (Ok':=fun f=>f.2.Lim) (fun x=>by simp[Ty.cells_eq]) (fun x h=>h.2.1))
  Tryz.underlying25 (by kernel_rfl:_=3) (by decide) (by kernel_rfl:_=48) (ev:=ba) (gl fun v=>by rw[fN];rfl)).map id (fun l=>by simp[aC,cE]) (fun l h=>⟨by have:=h.1;rw[gx]at this;simp only[id];omega,h.2⟩)
theorem rS:∀N,Rd enc Tryz.prog W N 27 (fun v:Ty=>v.cells) Ty.Lim
 |0=>.zero
 | N+1=>(dZ Tryz.underlying27 (by kernel_rfl) (aP (nr Tryz.underlying3) rfl (by kernel_rfl:_=1) (aP ((nq (rS N)).le (Iu N)) rfl (by kernel_rfl:_=1) fg))).map (fun x=>Ty.mk x.1 x.2.1)
   (fun x=>by simp[Ty.cells_eq,Ty.kind,Ty.fields]) (fun x h=>Ty.lim_mk h.2.1.1 h.2.1.2)
theorem CP(N:Nat):Rd enc Tryz.prog W N 54 (fun l:List Ty=>[dR l]) (fun l=>l.length<=140737488355328/\∀v∈l,v.Lim):=
 (gw (rS N) Tryz.underlying54 (by kernel_rfl:_=2) (by decide) (by kernel_rfl:_=32) (ev:=Ty.av) (gl fun v=>rfl)).map id (fun l=>by simp[dR]) (fun l h=>⟨by have:=h.1;rw[gx]at this;simp only[id];omega,h.2⟩)
theorem CO(N:Nat):Rd enc Tryz.prog W (N+1) 56 (fun s:Sig=>ab s.av) Sig.Lim:=
 (dZ Tryz.underlying56 (by kernel_rfl) (aP (iK Tryz.underlying9) rfl (by kernel_rfl:_=1) (aP (CP N) rfl (by kernel_rfl:_=1) (aP (rS N) rfl (by kernel_rfl:_=2) (aP (nr Tryz.underlying3) rfl (by kernel_rfl:_=1) fg))))).map
  (fun x=>(⟨x.1,x.2.1,x.2.2.1,x.2.2.2.1⟩:Sig)) (fun x=>by simp[Ty.cells_eq]) (fun x h=>⟨h.2.1.1,h.2.1.2,h.2.2.1⟩)
theorem Ak(N:Nat):Rd enc Tryz.prog W N 22 (fun l:List Sig=>[sigs l]) (fun l=>l.length<=140737488355328/\∀v∈l,v.Lim):=
 ((gw (CO N) Tryz.underlying22 (by kernel_rfl:_=5) (by decide) (by kernel_rfl:_=80) (ev:=Sig.av) (gl fun v=>rfl)).map id (fun l=>by simp[sigs]) (fun l h=>⟨by have:=h.1;rw[gx]at this;simp only[id];omega,h.2⟩)).le (Iu N)
theorem uu(N:Nat):Rd enc Tryz.prog W (N+1) 24 (fun f:Face=>ab f.av) Face.Lim:=
 (dZ Tryz.underlying24 (by kernel_rfl) (aP (iK Tryz.underlying9) rfl (by kernel_rfl:_=1) (aP (Ak N) rfl (by kernel_rfl:_=1) fg))).map
  (fun x=>(⟨x.1,x.2.1⟩:Face)) (fun x=>by simp) (fun x h=>⟨h.2.1.1,h.2.1.2⟩)
end
end Go.Proofs.YteemeakjlfnapaaGreatDoor
namespace Go.Proofs.YteemeakjlfnapaaGreatDoor
open Go Go.Av Go.Av.Ap Go.RowKit
set_option maxRecDepth 1000000
section
variable {H:Type} {enc:TypeId×Value->H} {W:World}
theorem uv(N:Nat):Rd enc Tryz.prog W N 35 (fun l:List bA=>[strs l]) (fun l=>l.length<=8796093022208):=
 (gw (iK Tryz.underlying9) Tryz.underlying35 (by kernel_rfl:_=1) (by decide) (by kernel_rfl:_=16) (xJ fun _=>rfl)).map id (fun _=>rfl) (fun l h=>by have:=h.1;rw[gx]at this;simp only[id];omega)
theorem Exp.lim_mk{o n:Int}{s m:bA}{ns:List bA}{es:List Exp}(h1:ns.length<=8796093022208)(h2:es.length<=140737488355328)(h3:∀v∈es,v.Lim):(Exp.mk o n s m ns es).Lim:=fun j=>match j with
 |0=>trivial
 |j+1=>⟨h1,h2,fun x hx=>h3 x hx j⟩
theorem np{N:Nat}(h:Rd enc Tryz.prog W N 47 (fun v:Exp=>v.cells) Exp.Lim):Rd enc Tryz.prog W N 36 (fun l:List Exp=>[cj l]) (fun l=>l.length<=140737488355328/\∀v∈l,v.Lim):=
 (gw h Tryz.underlying36 (by kernel_rfl:_=6) (by decide) (by kernel_rfl:_=96) (ev:=Exp.av) (gl fun v=>rfl)).map id (fun l=>by simp[cj,fL]) (fun l h=>⟨by have:=h.1;rw[gx]at this;simp only[id];omega,h.2⟩)
theorem tz:∀N,Rd enc Tryz.prog W N 47 (fun v:Exp=>v.cells) Exp.Lim
 |0=>.zero
 | N+1=>(dZ Tryz.underlying47 (by kernel_rfl) (aP (nr Tryz.underlying3) rfl (by kernel_rfl:_=1) (aP (nr Tryz.underlying3) rfl (by kernel_rfl:_=1) (aP (iK Tryz.underlying9) rfl (by kernel_rfl:_=1) (aP (iK Tryz.underlying9) rfl (by kernel_rfl:_=1)
   (aP (uv N) rfl (by kernel_rfl:_=1) (aP (np (tz N)) rfl (by kernel_rfl:_=1) fg))))))).map (fun x=>Exp.mk x.1 x.2.1 x.2.2.1 x.2.2.2.1 x.2.2.2.2.1 x.2.2.2.2.2.1) (fun x=>by simp[Exp.cells_eq,Exp.op,Exp.n,Exp.s,Exp.m,Exp.names,Exp.args]) (fun x h=>Exp.lim_mk h.2.2.2.2.1 h.2.2.2.2.2.1.1 h.2.2.2.2.2.1.2)
theorem qj(N:Nat):Rd enc Tryz.prog W N 36 (fun l:List Exp=>[cj l]) (fun l=>l.length<=140737488355328/\∀v∈l,v.Lim):=np (tz N)
theorem qk(N:Nat):Rd enc Tryz.prog W N 25 (fun l:List br=>[aC l]) (fun l=>l.length<=140737488355328/\∀v∈l,v.2.Lim):=(nq (rS N)).le (Iu N)
theorem CM(N:Nat):Rd enc Tryz.prog W (N+1) 73 (fun f:Fun=>ab f.av) Fun.Lim:=
 (dZ Tryz.underlying73 (by kernel_rfl) (aP (iK Tryz.underlying9) rfl (by kernel_rfl:_=1) (aP (ut Tryz.underlying4) rfl (by kernel_rfl:_=1) (aP (qk N) rfl (by kernel_rfl:_=1) (aP (rS N) rfl (by kernel_rfl:_=2)
  (aP (nr Tryz.underlying3) rfl (by kernel_rfl:_=1) (aP (tz N) rfl (by kernel_rfl:_=6) fg))))))).map (fun x=>(⟨x.1,x.2.1,x.2.2.1,x.2.2.2.1,x.2.2.2.2.1,x.2.2.2.2.2.1⟩:Fun))
  (fun x=>by simp[Ty.cells_eq,Exp.cells_eq]) (fun x h=>⟨h.2.2.1.1,h.2.2.1.2,h.2.2.2.1,h.2.2.2.2.2.1⟩)
theorem Aj(N:Nat):Rd enc Tryz.prog W N 37 (fun l:List Fun=>[fQ l]) (fun l=>l.length<=140737488355328/\∀v∈l,v.Lim):=
 ((gw (CM N) Tryz.underlying37 (by kernel_rfl:_=12) (by decide) (by kernel_rfl:_=184) (ev:=Fun.av) (gl fun v=>rfl)).map id (fun l=>by simp[fQ]) (fun l h=>⟨by have:=h.1;rw[gx]at this;simp only[id];omega,h.2⟩)).le (Iu N)
theorem CN(N:Nat):Rd enc Tryz.prog W (N+1) 41 (fun m:Mod=>ab m.av) Mod.Lim:=
 (dZ Tryz.underlying41 (by kernel_rfl) (aP (iK Tryz.underlying9) rfl (by kernel_rfl:_=1) (aP (uv N) rfl (by kernel_rfl:_=1) (aP (qk N) rfl (by kernel_rfl:_=1) (aP (qj N) rfl (by kernel_rfl:_=1)
  (aP (Aj N) rfl (by kernel_rfl:_=1) (aP (ut Tryz.underlying4) rfl (by kernel_rfl:_=1)
  (aP ((dZ Tryz.underlying39 (by kernel_rfl) (aP (qk N) rfl (by kernel_rfl:_=1) (aP (qj N) rfl (by kernel_rfl:_=1) (aP (qj N) rfl (by kernel_rfl:_=1) fg)))).le (Iu N)) rfl (by kernel_rfl:_=3) fg)))))))).map
  (fun x=>(⟨x.1,x.2.1,x.2.2.1,x.2.2.2.1,x.2.2.2.2.1,x.2.2.2.2.2.1,x.2.2.2.2.2.2.1.1,x.2.2.2.2.2.2.1.2.1,x.2.2.2.2.2.2.1.2.2.1⟩:Mod))
  (fun x=>by simp) (fun x h=>⟨by have:=h.2.1;simp only;omega,h.2.2.1.1,h.2.2.1.2,h.2.2.2.1.1,h.2.2.2.1.2,h.2.2.2.2.1.1,h.2.2.2.2.1.2,h.2.2.2.2.2.2.1.1.1,h.2.2.2.2.2.2.1.1.2,h.2.2.2.2.2.2.1.2.1.1,h.2.2.2.2.2.2.1.2.1.2,h.2.2.2.2.2.2.1.2.2.1.1,h.2.2.2.2.2.2.1.2.2.1.2⟩)
end
end Go.Proofs.YteemeakjlfnapaaGreatDoor
namespace Go.Proofs.YteemeakjlfnapaaGreatDoor
open Go Go.Av Go.Av.Ap
set_option maxRecDepth 100000
@[simp] theorem DR(t:Nat)(a b:Int):am T .geq t (.int .u8 a) (.int .u8 b)=some (.bool (decide (b<=a))):=rfl
@[simp] theorem DT(t:Nat)(a b:Int):am T .leq t (.int .u8 a) (.int .u8 b)=some (.bool (decide (a<=b))):=rfl
@[simp] theorem uD(t:Nat)(a b:bA):am T .leq t (.str a) (.str b)=some (.bool (aV a b||a== b)):=rfl
def zZ(f:AV)(F:br->Bool)(l:List br)(hb:l.length<=4611686018427387904)(hf:∀x∈l,bI (ah pg) f [ba x]=M.pure (.bool (F x))):∀(n:Nat)(i:Int),l.length-i.toNat=n->0<=i->i<=l.length->
  aj (L189_0 (ah pg) aj) [aC l,f,.int .i64 l.length,.int .i64 i]=M.pure (.int .i64 (bW F (l.drop i.toNat) i)):=by
 intro n
 induction n with
 |zero=>
  intro i hn hi hl;rw[FL189_0];simp only[L189_0];have h1:¬(i<(l.length:Int)):=by omega
  have h2:l.drop i.toNat=[]:=G5 (by omega);simp[h1,h2,bW]
 |succ n ih=>
  intro i hn hi hl;have h1:i<(l.length:Int):=by omega
  have hlt:i.toNat<l.length:=by omega
  have h2:bW F (l.drop i.toNat) i=if F l[i.toNat]=true then i else bW F (l.drop (i.toNat+1)) (i+1):=by rw[GZ hlt];rfl
  have h3:=hf l[i.toNat] (GQ hlt);have h4:=ih (i+1) (by omega) (by omega) (by omega);rw[show (i+1).toNat=i.toNat+1 by omega]at h4;rw[FL189_0];simp only[L189_0];simp (disch:=omega) [h1,dM,lX,h3,h2];cases F l[i.toNat]
  ·simpa using h4
  ·simp
def t189(f:AV)(F:br->Bool)(l:List br)(hb:l.length<=4611686018427387904)(hc:∀g,cl g f=f)(hf:∀x∈l,bI (ah pg) f [ba x]=M.pure (.bool (F x))):ah pg 189 [aC l,f]=M.pure (.int .i64 (bW F l 0)):=by
 rw[C189];simp[S189,hc,zZ f F l hb hf l.length 0 rfl (by omega) (by omega)]
def t131(f:AV)(F:br->Bool)(l:List br)(hb:l.length<=4611686018427387904)(hc:∀g,cl g f=f)(hf:∀x∈l,bI (ah pg) f [ba x]=M.pure (.bool (F x))):ah pg 131 [aC l,f]=M.pure (.bool (l.any F)):=by
 rw[C131];simp[S131,hc,t189 f F l hb hc hf,kN]
def z7(f:AV)(F:Ty->Bool)(l:List Ty)(hb:l.length<=4611686018427387904)(hf:∀x∈l,bI (ah pg) f [Ty.av x]=M.pure (.bool (F x))):∀(n:Nat)(i:Int),l.length-i.toNat=n->0<=i->i<=l.length->
  aj (L204_0 (ah pg) aj) [dR l,f,.int .i64 l.length,.int .i64 i]=M.pure (.int .i64 (bW F (l.drop i.toNat) i)):=by
 intro n
 induction n with
 |zero=>
  intro i hn hi hl;rw[FL204_0];simp only[L204_0];have h1:¬(i<(l.length:Int)):=by omega
  have h2:l.drop i.toNat=[]:=G5 (by omega);simp[h1,h2,bW]
 |succ n ih=>
  intro i hn hi hl;have h1:i<(l.length:Int):=by omega
  have hlt:i.toNat<l.length:=by omega
  have h2:bW F (l.drop i.toNat) i=if F l[i.toNat]=true then i else bW F (l.drop (i.toNat+1)) (i+1):=by rw[GZ hlt];rfl
  have h3:=hf l[i.toNat] (GQ hlt);have h4:=ih (i+1) (by omega) (by omega) (by omega);rw[show (i+1).toNat=i.toNat+1 by omega]at h4;rw[FL204_0];simp only[L204_0];simp (disch:=omega) [h1,dM,mf,h3,h2];cases F l[i.toNat]
  ·simpa using h4
  ·simp
def t204(f:AV)(F:Ty->Bool)(l:List Ty)(hb:l.length<=4611686018427387904)(hc:∀g,cl g f=f)(hf:∀x∈l,bI (ah pg) f [Ty.av x]=M.pure (.bool (F x))):ah pg 204 [dR l,f]=M.pure (.int .i64 (bW F l 0)):=by
 rw[C204];simp[S204,hc,z7 f F l hb hf l.length 0 rfl (by omega) (by omega)]
def t148(f:AV)(F:Ty->Bool)(l:List Ty)(hb:l.length<=4611686018427387904)(hc:∀g,cl g f=f)(hf:∀x∈l,bI (ah pg) f [Ty.av x]=M.pure (.bool (F x))):ah pg 148 [dR l,f]=M.pure (.bool (l.any F)):=by
 rw[C148];simp[S148,hc,t204 f F l hb hc hf,kN]
def zV(f:AV)(F:Sig->Bool)(l:List Sig)(hb:l.length<=4611686018427387904)(hf:∀x∈l,bI (ah pg) f [Sig.av x]=M.pure (.bool (F x))):∀(n:Nat)(i:Int),l.length-i.toNat=n->0<=i->i<=l.length->
  aj (L101_0 (ah pg) aj) [sigs l,f,.int .i64 l.length,.int .i64 i]=M.pure (.int .i64 (bW F (l.drop i.toNat) i)):=by
 intro n
 induction n with
 |zero=>
  intro i hn hi hl;rw[FL101_0];simp only[L101_0];have h1:¬(i<(l.length:Int)):=by omega
  have h2:l.drop i.toNat=[]:=G5 (by omega);simp[h1,h2,bW]
 |succ n ih=>
  intro i hn hi hl;have h1:i<(l.length:Int):=by omega
  have hlt:i.toNat<l.length:=by omega
  have h2:bW F (l.drop i.toNat) i=if F l[i.toNat]=true then i else bW F (l.drop (i.toNat+1)) (i+1):=by rw[GZ hlt];rfl
  have h3:=hf l[i.toNat] (GQ hlt);have h4:=ih (i+1) (by omega) (by omega) (by omega);rw[show (i+1).toNat=i.toNat+1 by omega]at h4;rw[FL101_0];simp only[L101_0];simp (disch:=omega) [h1,dM,qD,h3,h2];cases F l[i.toNat]
  ·simpa using h4
  ·simp
def t101(f:AV)(F:Sig->Bool)(l:List Sig)(hb:l.length<=4611686018427387904)(hc:∀g,cl g f=f)(hf:∀x∈l,bI (ah pg) f [Sig.av x]=M.pure (.bool (F x))):ah pg 101 [sigs l,f]=M.pure (.int .i64 (bW F l 0)):=by
 rw[C101];simp[S101,hc,zV f F l hb hf l.length 0 rfl (by omega) (by omega)]
def t199(b:UInt8):ah pg 199 [.int .u8 b.toNat]=M.pure (.bool (mc b)):=by
 rw[C199];have e:decide ((b.toNat:Int)<=122)=decide (b.toNat<=122):=H1.2 (by omega);have e2:decide (97<=(b.toNat:Int))=decide (97<=b.toNat):=H1.2 (by omega);simp[S199,mc,e,e2]
def t202(b:UInt8):ah pg 202 [.int .u8 b.toNat]=M.pure (.bool (sV b)):=by
 rw[C202];have e:decide ((b.toNat:Int)<=57)=decide (b.toNat<=57):=H1.2 (by omega);have e2:decide (48<=(b.toNat:Int))=decide (48<=b.toNat):=H1.2 (by omega);simp[S202,sV,e,e2]
def t201(b:UInt8):ah pg 201 [.int .u8 b.toNat]=M.pure (.bool (mr b)):=by
 rw[C201];simp[S201,t199,t202,mr]
theorem Bc{s:bA}{i:Nat}(h:i<s.length):eK T 9 (.str s) (.int .i64 (i:Int))=some (.int .u8 (s[i].toNat:Int)):=by
 have e1:eK T 9 (.str s) (.int .i64 (i:Int))=(if(i:Int)<0 then none else s[(i:Int).toNat]?.map fun b=>.int .u8 b.toNat):=rfl;rw[e1,if_neg (by omega),GP,G6 h];rfl
def z6(F:UInt8->Bool)(f:AV)(s:bA)(hb:s.length<=4611686018427387904)(hf:∀b:UInt8,bI (ah pg) f [.int .u8 b.toNat]=M.pure (.bool (F b))):∀(n i:Nat),s.length-i=n->i<=s.length->
  aj (L200_0 (ah pg) aj) [.str s,f,.int .i64 i]=M.pure (.int .i64 ((i+((s.drop i).takeWhile F).length:Nat):Int)):=by
 intro n
 induction n with
 |zero=>
  intro i hn hi;rw[FL200_0];simp only[L200_0];have h1:¬((i:Int)<(s.length:Int)):=by omega
  have h2:s.drop i=[]:=G5 (by omega);simp[h1,h2]
 | succ n ih=>
  intro i hn hi;have hlt:i<s.length:=by omega
  have h1:(i:Int)<(s.length:Int):=by omega
  have h2:s.drop i=s[i]:: s.drop (i+1):=GZ hlt;have h4:=ih (i+1) (by omega) (by omega);have hw:IntKind.i64.wrap ((i:Int)+1)=((i+1:Nat):Int):=aK (by omega);rw[FL200_0];simp only[L200_0,bc,bm,Fj,aI,bT,h1,HB,dh,Bc hlt,hf,aR,eN,aZ,dL,hw,h4,h2,List.takeWhile_cons];cases F s[i]
  ·simp
  ·rw[GM rfl,GM rfl];congr 3;simp;omega
def t146(s:bA):ah pg 146 [.str s]=M.pure (.bool (lW s)):=by
 rw[C146];by_cases hs:s=[]
 ·subst hs;simp[S146,lW]
 ·have hs':(s== [])=false:=GU.2 hs;have hpos:0<s.length:=Io.2 hs;have h0:=Bc (s:=s) (i:=0) hpos;have hd:s[0]=s.headD 0:=by cases s with|nil=>exact absurd rfl hs|cons c s=>rfl
  rw[hd]at h0;simp at h0;by_cases hl:s.length<=20
  ·have h1:=z6 mr (.fn (.func 201) [] []) s (by omega) (fun b=>t201 b) s.length 0 (by simp) (by simp);have hsp:ah pg 200 [.str s,.fn (.func 201) [] []]=M.pure (.int .i64 (((s.takeWhile mr).length:Nat):Int)):=by
    rw[C200];simp only[S200,cl,c8];rw[show (AV.int .i64 0)=AV.int .i64 ((0:Nat):Int)from rfl,h1];simp
   have e1:decide (20<(s.length:Int))=false:=by rw[H7];omega
   have e3:decide (20<s.length)=false:=by rw[H7];omega
   have e4:decide (s.length<=20)=true:=by simpa using hl
   simp[S146,hs',h0,t199,hsp,e1,e3,e4,lW]
  ·have e1:decide (20<(s.length:Int))=true:=by rw[GX];omega
   have e3:decide (20<s.length)=true:=by rw[GX];omega
   have e4:decide (s.length<=20)=false:=by simpa using hl
   simp[S146,hs',h0,t199,e1,e3,e4,lW]
def t147(s:bA):ah pg 147 [.str iY,.str s]=M.pure (.bool (Lib.contains iY s)):=by
 rw[dV hOther (E:=gh) rfl];rfl
theorem uC(t:Nat)(a b:bA):am T .add t (.str a) (.str b)=if a.length+b.length<=4611686018427387904 then some (.str (a++b))else none:=rfl
def t76(s:bA):ah pg 76 [.str s]=M.pure (.bool (bX s)):=by
 rw[C76];have h1:=t146 s;unfold bX;cases hw:lW s with
 |false=>
  rw[hw]at h1;simp[S76,h1]
 |true=>
  have hl:=vV hw;rw[hw]at h1;have h2:=t147 ([32]++s++[32]);unfold iY at h2;have e1:am T .add 9 (.str [32]) (.str s)=some (.str ([32]++s)):=by rw[uC,GM (by simp;omega)]
  have e2:am T .add 9 (.str ([32]++s)) (.str [32])=some (.str ([32]++s++[32])):=by rw[uC,GM (by simp;omega)]
  simp only[S76,mB,h1,aR,dh,e1,aI,e2,h2,g7,bc,eN,cY,HJ];rfl
def zS{t:Ty}(h:t.Lim)(k:Nat)(hk:k<t.fields.length):(t.fields[k]!).2.Lim:=by
 rw[G2 t.fields k hk];exact h.kid (GQ hk)
theorem t116:∀(d:Nat),d<=4->∀(t:Ty),t.Lim->ah pg 116 [t.av,.int .i64 d]=M.pure (.bool (cL d t))
 |0,_,t,_=>by
  rw[C116];simp[S116,cL]
 | d + 1,hd,t,ht=>by
  have ih:=t116 d (by omega);have hlen:=ht.len;have hd1:IntKind.i64.wrap ((((d+1:Nat)):Int)-1)=(d:Int):=pp (by omega);have hloop:=pT (F:=L116_0 (ah pg) aj) (FL116_0 (ah pg)) (fun k=>[.int .i64 ((d+1:Nat):Int),.ip (ab t.av),aC t.fields,.int .i64 t.fields.length,.int .i64 k]) t.fields.length
   (fun k=>(bX (t.fields[k]!).1&&cL d (t.fields[k]!).2)&&(decide (k=0)||dm (t.fields[k-1]!).1 (t.fields[k]!).1))
   (by simp[L116_0]) (fun k hk=>by
    have h1:(k:Int)<(t.fields.length:Int):=by omega
    have hix:=lX (l:=t.fields) (n:=(k:Int)) (by omega) h1;rw[GP]at hix;have hm:t.fields[k]! ∈t.fields:=by rw[G2 t.fields k hk];exact GQ hk
    have h2:=t76 (t.fields[k]!).1;have h3:=ih (t.fields[k]!).2 (zS ht k hk);have hw:IntKind.i64.wrap ((k:Int)+1)=(k:Int)+1:=by rw[aK (by omega)];simp
    have hd0:IntKind.i64.wrap (d:Int)=(d:Int):=za (by omega);generalize t.fields[k]! = f at hix h2 h3 hm |-;rcases Hx k with hk0|hk0
    ·subst hk0;have hix0:ak T 25 (aC t.fields) (.int .i64 0)=some (.ip (ab (ba f))):=hix;have hw0:IntKind.i64.wrap 1=1:=rfl;simp[L116_0,hix0,h2,h3,hw0,hd0,hk];cases bX f.1<;>cases cL d f.2<;>simp
    ·have hp:IntKind.i64.wrap ((k:Int)-1)=((k-1:Nat):Int):=by
      rw[dM (by omega) (by omega)];omega
     have h4:((k-1:Nat):Int)<(t.fields.length:Int):=by omega
     have hix2:=lX (l:=t.fields) (n:=((k-1:Nat):Int)) (by omega) h4;rw[GP]at hix2;generalize t.fields[k-1]! = g at hix2 |-;have hk1:¬k=0:=by omega
     simp[L116_0,h1,hix,h2,h3,hw,hd0,hp,hix2,hk0,hk1,hk];cases bX f.1<;>simp;cases h5:aV f.1 g.1<;>cases cL d f.2<;>by_cases h6:f.1=g.1<;>simp[dm,h5,h6]) 0 (G9 _)
  have hall:((List.range' 0 t.fields.length).all fun k=>(bX (t.fields[k]!).1&&cL d (t.fields[k]!).2)&&(decide (k=0)||dm (t.fields[k-1]!).1 (t.fields[k]!).1))=(t.fields.all (fun f=>bX f.1&&cL d f.2)&&gD (fun a b=>dm a.1 b.1) t.fields):=
   pz (fun f:br=>bX f.1&&cL d f.2) (fun a b=>dm a.1 b.1) t.fields
  rw[IZ,hall]at hloop;rw[C116];have h0:¬((d:Int)+1=0):=by omega
  have hl2:aj (L116_0 (ah pg) aj) [.int .i64 ((d:Int)+1),.ip [.int .i64 t.kind,aC t.fields],aC t.fields,.int .i64 t.fields.length,.int .i64 0]=M.pure (.bool (t.fields.all (fun f=>bX f.1&&cL d f.2)&&gD (fun a b=>dm a.1 b.1) t.fields)):=by
   simpa using hloop
  have hR:cL (d+1) t=if((t.kind<0\/3<=t.kind)\/8<(t.fields.length:Int))\/¬t.kind=2/\0<t.fields.length then false else(t.fields.all (fun f=>bX f.1&&cL d f.2)&&gD (fun a b=>dm a.1 b.1) t.fields):=by
   rw[fh];generalize (t.fields.all (fun f=>bX f.1&&cL d f.2)&&gD (fun a b=>dm a.1 b.1) t.fields)=q;generalize t.fields.length=n;generalize t.kind=k;split
   ·rename_i hc;cases q
    ·simp
    ·simp only[IM,I7,H7,Ih,GU];rcases hc with((h|h)|h)|h
     ·exact .inl (.inl (.inl (by omega)))
     ·exact .inl (.inl (.inr (by omega)))
     ·exact .inl (.inr (by omega))
     ·exact .inr ⟨h.1,by omega⟩
   ·rename_i hc;have e1:decide (0<=k)=true:=by rw[GX];omega
    have e2:decide (k<3)=true:=by rw[GX];omega
    have e3:decide (n<=8)=true:=by rw[GX];omega
    have e4:(k== 2||n== 0)=true:=by
     rw[HO,Hj,Hj];omega
    rw[e1,e2,e3,e4];simp
  rw[hR];simp[S116,h0,hl2]
def t47(t:Ty)(ht:t.Lim):ah pg 47 [t.av]=M.pure (.bool (a8 t)):=by
 rw[C47];have:ah pg 116 [t.av,.int .i64 4]=M.pure (.bool (cL 4 t)):=t116 4 (by omega) t ht;simp[S47,this]
def t73(t:Ty)(ht:t.Lim):ah pg 73 [t.av]=M.pure (.bool (a8 t)):=by
 rw[C73];simp[S73,t47 t ht]
theorem lE:(l:List br)->eJ (dn l)=some (l.map fun f=>(f.1,f.2.kind,dn f.2.fields))
 |[]=>rfl
 |f:: l=>by simp[dn,eJ,lE l,fN,rc,aC]
theorem oU{α β:Type}(g:α->β)(p:β->Bool):(l:List α)->aN p (l.map g)=(aN (fun x=>p (g x)) l).map g
 |[]=>rfl
 |x:: l=>by
  simp only[HA,aN,oU g p l];cases aN (fun x=>p (g x)) l with
  |some y=>rfl
  |none=>cases p (g x)<;>rfl
def ty0:Ty:=.mk 0 []
def t181(l:List br)(hl:l.length<=1000000000)(s:bA):ah pg 181 [aC l,.str s]=M.pure (.tup [((aN (fun f=>f.1== s) l).map (·.2)).getD ty0 |>.av,.bool (aN (fun f=>f.1== s) l).isSome]):=by
 rw[dV hOther (E:=iU) rfl];unfold iU aC;simp only[lE,HQ,hl,HB,GK,tm,oU];cases aN (fun f:br=>f.1== s) l with
 |none=>rfl
 |some f=>simp[af,M.pure,Ty.av,Ty.cells_eq,aC];rfl
def Ty.Short:Nat->Ty->Prop
 |0,_=>True
 |n+1,t=>t.fields.length<=1000000000/\∀f∈t.fields,Ty.Short n f.2
theorem fC:∀(d:Nat)(t:Ty),cL d t=true->∀n,Ty.Short n t
 |0,t,h,_=>by cases h
 |d+1,t,h,0=>trivial
 |d+1,t,h,n+1=>by
  rw[fh]at h;simp only[GJ,GX,GT]at h;exact⟨by omega,fun f hf=>fC d f.2 (h.2.1 f hf).2 n⟩
theorem fD{α:Type}{p:α->Bool}:{l:List α} ->{x:α} ->aN p l=some x->x∈l/\p x=true
 |[],x,h=>by cases h
 | y:: l,x,h=>by
  simp only[aN]at h;cases h2:aN p l with
  |some z=>
   rw[h2]at h;cases h
   have:=fD h2
   exact⟨Hy _ this.1,this.2⟩
  |none=>
   rw[h2]at h;cases h3:p y with
   |true=>rw[h3]at h;cases h;exact⟨Hz,h3⟩
   |false=>rw[h3]at h;cases h
def lK{α:Type}(P:α->Bool)(l:List α):(!l.any fun x=>!P x)=l.all P:=by simp[Jz]
theorem t125:∀(n:Nat)(b a:Ty),Ty.Short n a->Ty.Short n b->cL n b=true->ah pg 125 [a.av,b.av]=M.pure (.bool (aJ a b))
 |0,b,a,_,_,h=>by cases h
 | n+1,b,a,ha,hb,h=>by
  have ih:=t125 n;rw[fh]at h;simp only[GJ,GX,GT]at h;have hf:∀f∈b.fields,bI (ah pg) (.fn (.func 186) [] [.ip (ab a.av)]) [ba f]=M.pure (.bool (!(match aN (fun z=>z.1== f.1) a.fields with|some z=>aJ z.2 f.2|none=>false))):=by
   intro f hfm;show ah pg 186 [ba f,.ip (ab a.av)]=_;have h1:=t181 a.fields ha.1 f.1;rw[C186];cases hl:aN (fun z:br=>z.1== f.1) a.fields with
   |none=>
    rw[hl]at h1;simp[S186,h1,cl,c8]
   |some z=>
    rw[hl]at h1;have h2:=ih f.2 z.2 (ha.2 z (fD hl).1) (hb.2 f hfm) (h.2.1 f hfm).2;simp[S186,h1,cl,c8,h2]
  have h2:=t131 (.fn (.func 186) [] [.ip (ab a.av)]) _ b.fields (by have:=hb.1;omega) (fun g=>by simp[cl,c8]) hf;rw[C125,iQ];simp at h2;simp[S125,h2];rw[lK];rfl
def t56(a b:Ty)(ha:a.Lim)(hb:b.Lim):ah pg 56 [a.av,b.av]=M.pure (.bool (qu a b)):=by
 rw[C56];unfold qu;have h1:=t73 a ha;have h2:=t73 b hb;cases r1:a8 a with
 |false=>
  rw[r1]at h1;simp[S56,h1]
 | true=>
  cases r2:a8 b with
  |false=>
   rw[r1]at h1;rw[r2]at h2;simp[S56,h1,h2]
  |true=>
   rw[r1]at h1;rw[r2]at h2;have h3:=t125 4 b a (fC 4 a r1 4) (fC 4 b r2 4) r2;simp[S56,h1,h2,h3]
def t111(f:AV)(F:Ty->Ty->Bool)(a b:List Ty)(hb:a.length<=4611686018427387904)(hc:∀g,cl g f=f)(hf:∀x∈a,∀y∈b,bI (ah pg) f [x.av,y.av]=M.pure (.bool (F x y))):ah pg 111 [dR a,dR b,f]=M.pure (.bool (cg F a b)):=by
 rw[C111];by_cases h:a.length=b.length
 ·have hloop:=pT (FL111_0 (ah pg)) (fun k=>[dR b,f,dR a,.int .i64 a.length,.int .i64 (k:Int)]) a.length (fun k=>F a[k]! b[k]!)
   (by simp[L111_0]) (fun k hk=>by
    have h1:(k:Int)<(a.length:Int):=by omega
    have h1b:(k:Int)<(b.length:Int):=by omega
    have hixa:=mf (l:=a) (n:=(k:Int)) (by omega) h1;have hixb:=mf (l:=b) (n:=(k:Int)) (by omega) h1b;rw[GP]at hixa hixb;have hma:a[k]! ∈a:=by rw[G2 a k hk];exact GQ hk
    have hmb:b[k]! ∈b:=by rw[G2 b k (by omega)];exact GQ (by omega)
    have h3:=hf _ hma _ hmb;have hw:IntKind.i64.wrap ((k:Int)+1)=(k:Int)+1:=by rw[aK (by omega)];simp
    generalize a[k]! = x at hixa h3 |-;generalize b[k]! = y at hixb h3 |-;simp[L111_0,hk,hixa,hixb,h3,hw];cases F x y<;>simp) 0 (G9 _)
  rw[IZ,mq F a b h]at hloop;simp[S111,h,hc]at hloop |-;simp[hloop]
 ·have h2:=lr F a b h;have h3:(a.length != b.length)=true:=by simp[h]
  simp[S111,h3,hc,h2]
@[simp] theorem my(t:Nat)(a b:Int):am T .andNot t (.int .i64 a) (.int .i64 b)=some (.int .i64 (cp a b)):=rfl
def t44(a b:Sig)(ha:a.Lim)(hb:b.Lim):ah pg 44 [a.av,b.av]=M.pure (.bool (vU a b)):=by
 rw[C44];have h1:=t111 (.fn (.func 56) [] []) qu b.params a.params (by have:=hb.plen;omega) (fun g=>rfl) (fun x hx y hy=>t56 x y (hb.ptys x hx) (ha.ptys y hy));have h2:=t56 a.result b.result ha.result hb.result;unfold vU;cases r1:cg qu b.params a.params with
 |false=>
  rw[r1]at h1;simp[S44,h1]
 | true=>
  cases r2:qu a.result b.result with
  |false=>
   rw[r1]at h1;rw[r2]at h2;simp[S44,h1,h2]
  |true=>
   rw[r1]at h1;rw[r2]at h2;simp[S44,h1,h2]
def t149(t:Ty)(ht:t.Lim):ah pg 149 [t.av]=M.pure (.bool (!(a8 t))):=by
 rw[C149];simp[S149,t47 t ht]
def t77(s:Sig)(hs:s.Lim):ah pg 77 [s.av]=M.pure (.bool (fo s)):=by
 rw[C77];have h1:=t76 s.name;have h2:=t47 s.result hs.result;have h3:=t148 (.fn (.func 149) [] []) (fun t=>!(a8 t)) s.params (by have:=hs.plen;omega) (fun g=>rfl) (fun x hx=>t149 x (hs.ptys x hx));unfold fo;rw[<- lK a8 s.params];generalize (s.params.any fun x=>!a8 x)=q at h3 |-;by_cases g1:bX s.name=true
 ·rw [g1]at h1;by_cases g2:s.params.length<=6
  ·have g2':¬(6<(s.params.length:Int)):=by omega
   have g2n:¬(6<s.params.length):=by omega
   by_cases g3:cp s.effects 15=0
   ·by_cases g4:a8 s.result=true
    ·rw[g4]at h2;simp[S77,h1,h2,h3,g1,g2,g2',g2n,g3,g4]
    ·rw[Im]at g4;rw[g4]at h2;simp[S77,h1,h2,h3,g1,g2,g2',g2n,g3,g4]
   ·have g3':(cp s.effects 15== 0)=false:=GU.2 g3;simp[S77,h1,h2,h3,g1,g2,g2',g2n,g3,g3']
  ·have g2':6<(s.params.length:Int):=by omega
   have g2n:6<s.params.length:=by omega
   simp[S77,h1,h2,h3,g1,g2,g2',g2n]
 ·rw[Im]at g1;rw[g1]at h1;simp[S77,h1,h2,h3,g1]
theorem t27(f:Face)(hf:f.Lim):ah pg 27 [f.av]=M.pure (.bool (dE f)):=by
 have hlen:=hf.len;have hloop:=pT (FL27_0 (ah pg)) (fun k=>[.ip (ab f.av),sigs f.funcs,.int .i64 f.funcs.length,.int .i64 (k:Int)]) f.funcs.length
  (fun k=>fo f.funcs[k]! && (decide (k=0)||aV (f.funcs[k-1]!).name (f.funcs[k]!).name))
  (by simp[L27_0]) (fun k hk=>by
   have h1:(k:Int)<(f.funcs.length:Int):=by omega
   have hix:=qD (l:=f.funcs) (n:=(k:Int)) (by omega) h1;rw[GP]at hix;have hm:f.funcs[k]! ∈f.funcs:=by rw[G2 f.funcs k hk];exact GQ hk
   have h2:=t77 _ (hf.sigs _ hm);have hw:IntKind.i64.wrap ((k:Int)+1)=(k:Int)+1:=by rw[aK (by omega)];simp
   generalize f.funcs[k]! = x at hix h2 hm |-;rcases Hx k with hk0|hk0
   ·subst hk0;have hix0:ak T 22 (sigs f.funcs) (.int .i64 0)=some (.ip (ab x.av)):=hix;have hw0:IntKind.i64.wrap 1=1:=rfl;simp[L27_0,hix0,h2,hw0,hk];cases fo x<;>simp
   ·have hp:IntKind.i64.wrap ((k:Int)-1)=((k-1:Nat):Int):=by
     rw[dM (by omega) (by omega)];omega
    have h4:((k-1:Nat):Int)<(f.funcs.length:Int):=by omega
    have hix2:=qD (l:=f.funcs) (n:=((k-1:Nat):Int)) (by omega) h4;rw[GP]at hix2;generalize f.funcs[k-1]! = g at hix2 |-;have hk1:¬k=0:=by omega
    simp[L27_0,h1,hix,h2,hw,hp,hix2,hk0,hk1,hk];cases fo x<;>cases aV g.name x.name<;>simp) 0 (G9 _)
 have hall:((List.range' 0 f.funcs.length).all fun k=>fo f.funcs[k]! && (decide (k=0)||aV (f.funcs[k-1]!).name (f.funcs[k]!).name))=(f.funcs.all fo&&gD (fun a b=>aV a.name b.name) f.funcs):=
  pz fo (fun a b=>aV a.name b.name) f.funcs
 rw[IZ,hall]at hloop;have hl2:aj (L27_0 (ah pg) aj) [.ip [.str f.module,sigs f.funcs],sigs f.funcs,.int .i64 f.funcs.length,.int .i64 0]=M.pure (.bool (f.funcs.all fo&&gD (fun a b=>aV a.name b.name) f.funcs)):=by
  simpa using hloop
 rw[C27];have h1:=t76 f.module;unfold dE;by_cases g1:bX f.module=true
 ·rw[g1]at h1;by_cases g2:f.funcs.length<=30
  ·have g2':¬(30<(f.funcs.length:Int)):=by omega
   have g2n:¬(30<f.funcs.length):=by omega
   simp[S27,h1,g1,g2,g2',g2n,hl2]
  ·have g2':30<(f.funcs.length:Int):=by omega
   have g2n:30<f.funcs.length:=by omega
   simp[S27,h1,g1,g2,g2',g2n]
 ·rw[Im]at g1;rw[g1]at h1;simp[S27,h1,g1]
def gP{F:(List AV->M AV)->List AV->M AV}(hF:∀vs,aj F vs=F (aj F) vs)(st:Nat->List AV)(n:Nat)(hend:∃b,F (aj F) (st n)=M.pure (.bool b))(hstep:∀k,k<n->(∃b,F (aj F) (st k)=M.pure (.bool b))\/F (aj F) (st k)=aj F (st (k+1))):
  ∀k,k<=n->∃b,aj F (st k)=M.pure (.bool b):=by
 have key:∀r k,n-k=r->k<=n->∃b,aj F (st k)=M.pure (.bool b):=by
  intro r
  induction r with
  |zero=>
   intro k hr hk;obtain rfl:k=n:=by omega
   rw[hF];exact hend
  | succ r ih=>
   intro k hr hk;rw[hF];rcases hstep k (by omega)with h|h
   ·exact h
   ·rw[h];exact ih (k+1) (by omega) (by omega)
 exact fun k hk=>key (n-k) k rfl hk
def pj{t:Ty}{f:br}(h:f∈t.fields):SizeOf.sizeOf f.2<SizeOf.sizeOf t:=by
 cases t with
 |mk k fs=>
  have h1:=IF (show f∈fs from h);obtain⟨a,b⟩:=f;show SizeOf.sizeOf b<_;simp at h1 |-;omega
def FK:∀(n:Nat)(t:Ty),SizeOf.sizeOf t<=n->t.Lim->∀most:Int,0<=most->most<=1000->∃r:Int,ah pg 62 [t.av,.int .i64 most]=M.pure (.int .i64 r)/\1<=r/\r<=most+1:=by
 intro n
 induction n with
 |zero=>
  intro t h;cases t;simp at h
 | succ n ih=>
  intro t hs ht most h0 h1;have hlen:=ht.len;have hl:∀(k i:Nat),t.fields.length-i=k->i<=t.fields.length->∀m:Int,1<=m->m<=most+1->∃r:Int,aj (L62_0 (ah pg) aj) [.int .i64 most,.ip (ab t.av),.int .i64 m,.int .i64 i]=M.pure (.int .i64 r)/\1<=r/\r<=most+1:=by
   intro k
   induction k with
   |zero=>
    intro i hk hi m hm1 hm2;rw[FL62_0];have h1:¬((i:Int)<(t.fields.length:Int)):=by omega
    exact⟨m,by simp[L62_0,h1],hm1,hm2⟩
   | succ k ihk=>
    intro i hk hi m hm1 hm2;rw[FL62_0];have hlt:i<t.fields.length:=by omega
    have h1':(i:Int)<(t.fields.length:Int):=by omega
    by_cases hm:m<=most
    ·have hix:=lX (l:=t.fields) (n:=(i:Int)) (by omega) h1';rw[GP,G2 t.fields i hlt]at hix;have hm':=GQ hlt;generalize t.fields[i]=f at hix hm';have hsz:=pj hm';obtain⟨r,e1,e2,e3⟩:=ih f.2 (by omega) (ht.kid hm') (most-m) (by omega) (by omega);obtain⟨r2,g1,g2,g3⟩:=ihk (i+1) (by omega) (by omega) (m+r) (by omega) (by omega);have w1:IntKind.i64.wrap (most-m)=most-m:=dM (by omega) (by omega);have w2:IntKind.i64.wrap (m+r)=m+r:=dM (by omega) (by omega);have w3:IntKind.i64.wrap ((i:Int)+1)=((i+1:Nat):Int):=aK (by omega);refine⟨r2,?_,g2,g3⟩;rw[<- g1];simp only[L62_0,bc,bm,bG,FA27_1,aI,HH,Hi,LD25,vZ,bT,jP,h1',hm,HB,dh,aR,eN,aZ,Hk,hix,cC,FA76_1,LD27,GY,G4,G1,Nat.reduceAdd,GL,Hb,Hn,cu,pG,w1,e1,dL,w2,w3]
    ·exact⟨m,by simp[L62_0,h1',hm],hm1,hm2⟩
  obtain⟨r,e1,e2,e3⟩:=hl t.fields.length 0 rfl (by omega) 1 (by omega) (by omega);refine⟨r,?_,e2,e3⟩;rw[C62];have e1':aj (L62_0 (ah pg) aj) [.int .i64 most,.ip (ab t.av),.int .i64 1,.int .i64 0]=M.pure (.int .i64 r):=e1;simp only[S62,lx,sP,e1',mV]
def FL:∀(n:Nat)(t:Ty),SizeOf.sizeOf t<=n->t.Lim->∃b,ah pg 63 [t.av]=M.pure (.bool b):=by
 intro n
 induction n with
 |zero=>
  intro t h;cases t;simp at h
 | succ n ih=>
  intro t hs ht;have hlen:=ht.len;obtain⟨b,hb⟩:=gP (FL63_0 (ah pg)) (fun k=>[.ip (ab t.av),.int .i64 (k:Int)]) t.fields.length ⟨true,by simp[L63_0]⟩ (fun k hk=>by
   have h1:(k:Int)<(t.fields.length:Int):=by omega
   have hix:=lX (l:=t.fields) (n:=(k:Int)) (by omega) h1;rw[GP,G2 t.fields k hk]at hix;have hm':=GQ hk;generalize t.fields[k]=f at hix hm';have hsz:=pj hm';have w3:IntKind.i64.wrap ((k:Int)+1)=(k:Int)+1:=by rw[aK (by omega)];simp
   obtain⟨b,hb⟩:=ih f.2 (by omega) (ht.kid hm');by_cases hn:30<(f.1.length:Int)
   ·refine .inl ⟨false,?_⟩;have hn':30<f.1.length:=by omega
    simp[L63_0,h1,hk,hix,hn,hn']
   ·have hn':¬30<f.1.length:=by omega
    cases b with
    |false=>exact .inl ⟨false,by simp[L63_0,h1,hk,hix,hn,hn',hb]⟩
    |true=>exact .inr (by simp[L63_0,h1,hk,hix,hn,hn',hb,w3])) 0 (G9 _)
  refine⟨b,?_⟩;rw[C63];have hb':aj (L63_0 (ah pg) aj) [.ip (ab t.av),.int .i64 0]=M.pure (.bool b):=hb;simp only[S63,lx,hb',cY]
def Cg(t:Ty)(ht:t.Lim):∃b,ah pg 16 [t.av]=M.pure (.bool b):=by
 obtain⟨r,e1,e2,e3⟩:=FK _ t (GL _) ht 40 (by omega) (by omega);obtain⟨b,hb⟩:=FL _ t (GL _) ht;rw[C16];by_cases h:r<=40
 ·exact⟨b,by simp[S16,e1,hb,h]⟩
 ·exact⟨false,by simp[S16,e1,h]⟩
def Ee(l:List Ty)(hl:l.length<=4611686018427387904)(ht:∀t∈l,t.Lim):∃b,ah pg 61 [dR l]=M.pure (.bool b):=by
 obtain⟨b,hb⟩:=gP (FL61_0 (ah pg)) (fun k=>[dR l,.int .i64 (k:Int)]) l.length ⟨true,by simp[L61_0]⟩ (fun k hk=>by
  have h1:(k:Int)<(l.length:Int):=by omega
  have hix:=mf (l:=l) (n:=(k:Int)) (by omega) h1;rw[GP,G2 l k hk]at hix;have hm':=GQ hk;generalize l[k]=t at hix hm';have w3:IntKind.i64.wrap ((k:Int)+1)=(k:Int)+1:=by rw[aK (by omega)];simp
  obtain⟨b,hb⟩:=Cg t (ht t hm');cases b with
  |false=>exact .inl ⟨false,by simp[L61_0,h1,hk,hix,hb]⟩
  |true=>exact .inr (by simp[L61_0,h1,hk,hix,hb,w3])) 0 (G9 _)
 refine⟨b,?_⟩;rw[C61];have hb':aj (L61_0 (ah pg) aj) [dR l,.int .i64 0]=M.pure (.bool b):=hb;simp only[S61,sQ,hb',cY]
theorem zn(t:Ty):bg T 54 1 [(0,t.av)]=some (dR [t]):=by
 have e:bg T 54 1 [(0,t.av)]=(gO 2 [AV.agg [.int .i64 0,.sl []]] [(0,t.av)]).map .sl:=rfl;rw[e];simp[gO,dR]
def Eb(f:Face)(hf:f.Lim):∃b,ah pg 15 [f.av]=M.pure (.bool b):=by
 have hlen:=hf.len;have tail:∀(p q:Bool),∃b,(ae (ar (.bool p) true 1 (M.pure [.bool q])) fun v46=>ae (af (aB (.bool p) (nth v46 0) (.bool false))) fun v47=>M.pure v47:M AV)=M.pure (.bool b):=by
  intro p q;cases p<;>cases q<;>exact⟨_,rfl⟩
 obtain⟨b,hb⟩:=gP (FL15_0 (ah pg)) (fun k=>[.ip (ab f.av),.int .i64 (k:Int)]) f.funcs.length (by
  obtain⟨b,hb⟩:=tail (decide ((f.module.length:Int)<=30)) (decide ((f.funcs.length:Int)<=10));refine⟨b,?_⟩;rw[<- hb];simp[L15_0]) (fun k hk=>by
  have h1:(k:Int)<(f.funcs.length:Int):=by omega
  have hix:=qD (l:=f.funcs) (n:=(k:Int)) (by omega) h1;rw[GP,G2 f.funcs k hk]at hix;have hm':=GQ hk;generalize f.funcs[k]=s at hix hm';have hs:=hf.sigs s hm';have w3:IntKind.i64.wrap ((k:Int)+1)=(k:Int)+1:=by rw[aK (by omega)];simp
  obtain⟨b1,hb1⟩:=Ee s.params (by have:=hs.plen;omega) hs.ptys;obtain⟨b2,hb2⟩:=Ee [s.result] (by simp) (fun t ht=>by simp at ht;subst ht;exact hs.result);have hbs:bg T 54 1 [(0,s.result.av)]=some (dR [s.result]):=zn _;obtain⟨b,hb⟩:=tail (decide ((f.module.length:Int)<=30)) (decide ((f.funcs.length:Int)<=10));by_cases h10:k<=10
  ·have h10':((k:Int)<=10):=by omega
   by_cases h30:30<s.name.length
   ·have h30':30<(s.name.length:Int):=by omega
    exact .inl ⟨false,by simp[L15_0,h1,hk,hix,h10,h10',h30,h30']⟩
   ·have h30':¬30<(s.name.length:Int):=by omega
    by_cases h8:8<s.params.length
    ·have h8':8<(s.params.length:Int):=by omega
     exact .inl ⟨false,by simp[L15_0,h1,hk,hix,h10,h10',h30,h30',h8,h8']⟩
    ·have h8':¬8<(s.params.length:Int):=by omega
     cases b1 with
     |false=>exact .inl ⟨false,by simp[L15_0,h1,hk,hix,h10,h10',h30,h30',h8,h8',hb1]⟩
     |true=>
      cases b2 with
      |false=>exact .inl ⟨false,by simp[L15_0,h1,hk,hix,h10,h10',h30,h30',h8,h8',hb1,hbs,hb2]⟩
      |true=>exact .inr (by simp[L15_0,h1,hk,hix,h10,h10',h30,h30',h8,h8',hb1,hbs,hb2,w3])
  ·have h10':¬((k:Int)<=10):=by omega
   refine .inl ⟨b,?_⟩;rw[<- hb];simp[L15_0,h1,hk,h10,h10']) 0 (G9 _)
 refine⟨b,?_⟩;rw[C15];have hb':aj (L15_0 (ah pg) aj) [.ip (ab f.av),.int .i64 0]=M.pure (.bool b):=hb;simp only[S15,gJ,hb',cY]
def r9{e x:Exp}(h:x∈e.args):SizeOf.sizeOf x<SizeOf.sizeOf e:=by
 cases e with
 |mk o n s m ns es=>
  have h1:SizeOf.sizeOf x<SizeOf.sizeOf es:=IF h;simp only[Exp.mk.sizeOf_spec];omega
def Ec:∀(n:Nat)(e:Exp),SizeOf.sizeOf e<=n->e.Lim->∀most:Int,0<=most->most<=1000->∃r:Int,ah pg 187 [e.av,.int .i64 most]=M.pure (.int .i64 r)/\1<=r/\r<=most+1:=by
 intro n
 induction n with
 |zero=>
  intro e h;cases e;simp at h
 | succ n ih=>
  intro e hs he most h0 h1;have hlen:=he.len;have hl:∀(k i:Nat),e.args.length-i=k->i<=e.args.length->∀m:Int,1<=m->m<=most+1->∃r:Int,aj (L187_0 (ah pg) aj) [.int .i64 most,.ip (ab e.av),.int .i64 m,.int .i64 i]=M.pure (.int .i64 r)/\1<=r/\r<=most+1:=by
   intro k
   induction k with
   |zero=>
    intro i hk hi m hm1 hm2;rw[FL187_0];have h1:¬((i:Int)<(e.args.length:Int)):=by omega
    exact⟨m,by simp[L187_0,h1],hm1,hm2⟩
   | succ k ihk=>
    intro i hk hi m hm1 hm2;rw[FL187_0];have hlt:i<e.args.length:=by omega
    have h1':(i:Int)<(e.args.length:Int):=by omega
    by_cases hm:m<=most
    ·have hix:=lY (l:=e.args) (n:=(i:Int)) (by omega) h1';rw[GP,G2 e.args i hlt]at hix;have hm':=GQ hlt;generalize e.args[i]=f at hix hm';have hsz:=r9 hm';obtain⟨r,e1,e2,e3⟩:=ih f (by omega) (he.kid hm') (most-m) (by omega) (by omega);obtain⟨r2,g1,g2,g3⟩:=ihk (i+1) (by omega) (by omega) (m+r) (by omega) (by omega);have w1:IntKind.i64.wrap (most-m)=most-m:=dM (by omega) (by omega);have w2:IntKind.i64.wrap (m+r)=m+r:=dM (by omega) (by omega);have w3:IntKind.i64.wrap ((i:Int)+1)=((i+1:Nat):Int):=aK (by omega);refine⟨r2,?_,g2,g3⟩;rw[<- g1];simp only[L187_0,bc,bm,bJ,FA47_5,aI,HH,Hi,LD36,wb,bT,jP,h1',hm,HB,dh,aR,eN,aZ,Hk,hix,LD47,GY,G4,G1,Nat.reduceAdd,GL,Hb,Hn,dK,pG,w1,e1,dL,w2,w3]
    ·exact⟨m,by simp[L187_0,h1',hm],hm1,hm2⟩
  obtain⟨r,e1,e2,e3⟩:=hl e.args.length 0 rfl (by omega) 1 (by omega) (by omega);refine⟨r,?_,e2,e3⟩;rw[C187];have e1':aj (L187_0 (ah pg) aj) [.int .i64 most,.ip (ab e.av),.int .i64 1,.int .i64 0]=M.pure (.int .i64 r):=e1;simp only[S187,pI,sP,e1',mV]
def Ed:∀(n:Nat)(e:Exp),SizeOf.sizeOf e<=n->e.Lim->∃b,ah pg 188 [e.av]=M.pure (.bool b):=by
 intro n
 induction n with
 |zero=>
  intro e h;cases e;simp at h
 | succ n ih=>
  intro e hs he;have hlen:=he.len;have hnl:=he.names;have end0:∃b,L188_0 (ah pg) aj (aj (L188_0 (ah pg) aj)) [.ip (ab e.av),.int .i64 (e.args.length:Int)]=M.pure (.bool b):=by
   exact⟨decide ((e.s.length:Int)<=30)&&decide ((e.m.length:Int)<=30)&&decide ((e.names.length:Int)<=12),by simp[L188_0]⟩
  obtain⟨b0,hb0⟩:=gP (FL188_0 (ah pg)) (fun k=>[.ip (ab e.av),.int .i64 (k:Int)]) e.args.length end0 (fun k hk=>by
   have h1:(k:Int)<(e.args.length:Int):=by omega
   have hix:=lY (l:=e.args) (n:=(k:Int)) (by omega) h1;rw[GP,G2 e.args k hk]at hix;have hm':=GQ hk;generalize e.args[k]=f at hix hm';have hsz:=r9 hm';have w3:IntKind.i64.wrap ((k:Int)+1)=(k:Int)+1:=by rw[aK (by omega)];simp
   obtain⟨b,hb⟩:=ih f (by omega) (he.kid hm');cases b with
   |false=>exact .inl ⟨false,by simp[L188_0,h1,hk,hix,hb]⟩
   |true=>exact .inr (by simp[L188_0,h1,hk,hix,hb,w3])) 0 (G9 _)
  have hb0':aj (L188_0 (ah pg) aj) [.ip (ab e.av),.int .i64 0]=M.pure (.bool b0):=hb0;simp only[bJ]at hb0';obtain⟨b,hb⟩:=gP (FL188_1 (ah pg)) (fun k=>[.ip (ab e.av),.int .i64 (k:Int)]) e.names.length ⟨b0,by simp[L188_1,hb0']⟩ (fun k hk=>by
   have h1:(k:Int)<(e.names.length:Int):=by omega
   have hix:=qE (l:=e.names) (n:=(k:Int)) (by omega) h1;rw[GP,G2 e.names k hk]at hix;generalize e.names[k]=f at hix;have w3:IntKind.i64.wrap ((k:Int)+1)=(k:Int)+1:=by rw[aK (by omega)];simp
   by_cases h12:k<=12
   ·have h12':(k:Int)<=12:=by omega
    by_cases h30:30<f.length
    ·have h30':30<(f.length:Int):=by omega
     exact .inl ⟨false,by simp[L188_1,h1,hk,hix,h12,h12',h30,h30']⟩
    ·have h30':¬30<(f.length:Int):=by omega
     exact .inr (by simp[L188_1,h1,hk,hix,h12,h12',h30,h30',w3])
   ·have h12':¬(k:Int)<=12:=by omega
    exact .inl ⟨b0,by simp[L188_1,h1,hk,h12,h12',hb0']⟩) 0 (G9 _)
  refine⟨b,?_⟩;rw[C188];have hb':aj (L188_1 (ah pg) aj) [.ip (ab e.av),.int .i64 0]=M.pure (.bool b):=hb;simp only[S188,pI,hb',cY]
def A8(e:Exp)(he:e.Lim):∃b,ah pg 127 [e.av]=M.pure (.bool b):=by
 obtain⟨r,e1,e2,e3⟩:=Ec _ e (GL _) he 120 (by omega) (by omega);obtain⟨b,hb⟩:=Ed _ e (GL _) he;rw[C127];by_cases h:r<=120
 ·exact⟨b,by simp[S127,e1,hb,h]⟩
 ·exact⟨false,by simp[S127,e1,h]⟩
def xQ(l:List br)(hb:l.length<=140737488355328)(ht:∀f∈l,f.2.Lim):∃b,ah pg 126 [aC l]=M.pure (.bool b):=by
 obtain⟨b,hb⟩:=gP (FL126_0 (ah pg)) (fun k=>[aC l,.int .i64 (k:Int)]) l.length ⟨decide ((l.length:Int)<=10),by simp[L126_0]⟩ (fun k hk=>by
  have h1:(k:Int)<(l.length:Int):=by omega
  have hix:=lX (l:=l) (n:=(k:Int)) (by omega) h1;rw[GP,G2 l k hk]at hix;have hm':=GQ hk;generalize l[k]=f at hix hm';have w3:IntKind.i64.wrap ((k:Int)+1)=(k:Int)+1:=by rw[aK (by omega)];simp
  obtain⟨b,hb⟩:=Cg f.2 (ht f hm');by_cases h9:k<=10
  ·have h9':(k:Int)<=10:=by omega
   by_cases h30:30<f.1.length
   ·have h30':30<(f.1.length:Int):=by omega
    exact .inl ⟨false,by simp[L126_0,h1,hk,hix,h9,h9',h30,h30']⟩
   ·have h30':¬30<(f.1.length:Int):=by omega
    cases b with
    |false=>exact .inl ⟨false,by simp[L126_0,h1,hk,hix,hb,h9,h9',h30,h30']⟩
    |true=>exact .inr (by simp[L126_0,h1,hk,hix,hb,h9,h9',h30,h30',w3])
  ·have h9':¬(k:Int)<=10:=by omega
   exact .inl ⟨decide ((l.length:Int)<=10),by simp[L126_0,h1,hk,h9,h9']⟩) 0 (G9 _)
 refine⟨b,?_⟩;rw[C126];have hb':aj (L126_0 (ah pg) aj) [aC l,.int .i64 0]=M.pure (.bool b):=hb;simp only[S126,l8,hb',cY]
def xR(l:List Exp)(hb:l.length<=140737488355328)(ht:∀f∈l,f.Lim):∃b,ah pg 128 [cj l]=M.pure (.bool b):=by
 obtain⟨b,hb⟩:=gP (FL128_0 (ah pg)) (fun k=>[cj l,.int .i64 (k:Int)]) l.length ⟨decide ((l.length:Int)<=10),by simp[L128_0]⟩ (fun k hk=>by
  have h1:(k:Int)<(l.length:Int):=by omega
  have hix:=lY (l:=l) (n:=(k:Int)) (by omega) h1;rw[GP,G2 l k hk]at hix;have hm':=GQ hk;generalize l[k]=f at hix hm';have w3:IntKind.i64.wrap ((k:Int)+1)=(k:Int)+1:=by rw[aK (by omega)];simp
  obtain⟨b,hb⟩:=A8 f (ht f hm');by_cases h9:k<=10
  ·have h9':(k:Int)<=10:=by omega
   cases b with
   |false=>exact .inl ⟨false,by simp[L128_0,h1,hk,hix,hb,h9,h9']⟩
   |true=>exact .inr (by simp[L128_0,h1,hk,hix,hb,h9,h9',w3])
  ·have h9':¬(k:Int)<=10:=by omega
   exact .inl ⟨decide ((l.length:Int)<=10),by simp[L128_0,h1,hk,h9,h9']⟩) 0 (G9 _)
 refine⟨b,?_⟩;rw[C128];have hb':aj (L128_0 (ah pg) aj) [cj l,.int .i64 0]=M.pure (.bool b):=hb;simp only[S128,zF,hb',cY]
def FJ(m:Ap.Mod)(hm:m.Lim):∃b,ah pg 51 [m.av]=M.pure (.bool b):=by
 have u1:=hm.uses;have f1:=hm.funcs;obtain⟨b1,e1⟩:=xQ m.vars hm.vars hm.vty;obtain⟨b2,e2⟩:=xR m.init hm.init hm.ies;obtain⟨b3,e3⟩:=xQ m.old hm.old hm.oty;obtain⟨b4,e4⟩:=xR m.forward hm.forward hm.fes;obtain⟨b5,e5⟩:=xR m.back hm.back hm.bes
 have end0:∃b,∀k:Nat,(k=m.uses.length\/14<k)->L51_0 (ah pg) aj (aj (L51_0 (ah pg) aj)) [.ip (ab m.av),.int .i64 (k:Int)]=M.pure (.bool b):=by
  have hg:∀k:Nat,(k=m.uses.length\/14<k)->(k<m.uses.length->¬k<=14):=by intro k h;omega
  have key:∀k:Nat,(k=m.uses.length\/14<k)->∀ {b:Bool},(L51_0 (ah pg) aj (aj (L51_0 (ah pg) aj)) [.ip (ab m.av),.int .i64 (m.uses.length:Int)]=M.pure (.bool b))->L51_0 (ah pg) aj (aj (L51_0 (ah pg) aj)) [.ip (ab m.av),.int .i64 (k:Int)]=M.pure (.bool b):=by
   intro k h b hb;rw[<- hb];by_cases hk:k<m.uses.length
   ·have h14:¬(k:Int)<=14:=by omega
    simp[L51_0,hk,h14]
   ·simp[L51_0,hk]
  have base:∃b,L51_0 (ah pg) aj (aj (L51_0 (ah pg) aj)) [.ip (ab m.av),.int .i64 (m.uses.length:Int)]=M.pure (.bool b):=by
   cases hq:(decide ((m.name.length:Int)<=30)&&decide ((m.uses.length:Int)<=14)&&decide ((m.funcs.length:Int)<=8))with
   |false=>exact⟨false,by simp[L51_0];rw[hq];simp⟩
   | true=>cases b1 with
    |false=>exact⟨false,by simp[L51_0];rw[hq];simp[e1]⟩
    | true=>cases b2 with
     |false=>exact⟨false,by simp[L51_0];rw[hq];simp[e1,e2]⟩
     | true=>cases b3 with
      |false=>exact⟨false,by simp[L51_0];rw[hq];simp[e1,e2,e3]⟩
      |true=>cases b4 with
       |false=>exact⟨false,by simp[L51_0];rw[hq];simp[e1,e2,e3,e4]⟩
       |true=>exact⟨b5,by simp[L51_0];rw[hq];simp[e1,e2,e3,e4,e5]⟩
  obtain⟨b,hb⟩:=base;exact⟨b,fun k hk=>key k hk hb⟩
 obtain⟨bE,hE⟩:=end0;obtain⟨b0,hb0⟩:=gP (FL51_0 (ah pg)) (fun k=>[.ip (ab m.av),.int .i64 (k:Int)]) m.uses.length ⟨bE,hE _ (.inl rfl)⟩ (fun k hk=>by
  have h1:(k:Int)<(m.uses.length:Int):=by omega
  have hix:=qE (l:=m.uses) (n:=(k:Int)) (by omega) h1;rw[GP,G2 m.uses k hk]at hix;generalize m.uses[k]=f at hix;have w3:IntKind.i64.wrap ((k:Int)+1)=(k:Int)+1:=by rw[aK (by omega)];simp
  by_cases h12:k<=14
  ·have h12':(k:Int)<=14:=by omega
   by_cases h30:30<f.length
   ·have h30':30<(f.length:Int):=by omega
    exact .inl ⟨false,by simp[L51_0,h1,hk,hix,h12,h12',h30,h30']⟩
   ·have h30':¬30<(f.length:Int):=by omega
    exact .inr (by simp[L51_0,h1,hk,hix,h12,h12',h30,h30',w3])
  ·exact .inl ⟨bE,hE k (.inr (by omega))⟩) 0 (G9 _)
 have hb0':aj (L51_0 (ah pg) aj) [.ip (ab m.av),.int .i64 0]=M.pure (.bool b0):=hb0;simp only[bj]at hb0';obtain⟨b,hb⟩:=gP (FL51_1 (ah pg)) (fun k=>[.ip (ab m.av),.int .i64 (k:Int)]) m.funcs.length ⟨b0,by simp[L51_1,hb0']⟩ (fun k hk=>by
  have h1:(k:Int)<(m.funcs.length:Int):=by omega
  have hix:=vY (l:=m.funcs) (n:=(k:Int)) (by omega) h1;rw[GP,G2 m.funcs k hk]at hix;have hm':=GQ hk;generalize m.funcs[k]=f at hix hm';have hf:=hm.fns f hm';have w3:IntKind.i64.wrap ((k:Int)+1)=(k:Int)+1:=by rw[aK (by omega)];simp
  have hcf:aH 12 f.av=M.pure f.av:=by rw[bQ (iG f),fJ,ix]
  obtain⟨c1,g1⟩:=xQ f.params hf.params hf.pty;obtain⟨c2,g2⟩:=Cg f.result hf.result;obtain⟨c3,g3⟩:=A8 f.body hf.body;by_cases h12:k<=8
  ·have h12':(k:Int)<=8:=by omega
   by_cases h30:30<f.name.length
   ·have h30':30<(f.name.length:Int):=by omega
    exact .inl ⟨false,by simp[L51_1,h1,hk,hix,h12,h12',h30,h30',hcf]⟩
   ·have h30':¬30<(f.name.length:Int):=by omega
    cases c1 with
    |false=>exact .inl ⟨false,by simp[L51_1,h1,hk,hix,h12,h12',h30,h30',hcf,g1]⟩
    | true=>cases c2 with
     |false=>exact .inl ⟨false,by simp[L51_1,h1,hk,hix,h12,h12',h30,h30',hcf,g1,g2]⟩
     |true=>cases c3 with
      |false=>exact .inl ⟨false,by simp[L51_1,h1,hk,hix,h12,h12',h30,h30',hcf,g1,g2,g3]⟩
      |true=>exact .inr (by simp[L51_1,h1,hk,hix,h12,h12',h30,h30',hcf,g1,g2,g3,w3])
  ·have h12':¬(k:Int)<=8:=by omega
   exact .inl ⟨b0,by simp[L51_1,h1,hk,h12,h12',hb0']⟩) 0 (G9 _)
 refine⟨b,?_⟩;rw[C51];have hb':aj (L51_1 (ah pg) aj) [.ip (ab m.av),.int .i64 0]=M.pure (.bool b):=hb;simp only[S51,pJ,hb',cY]
end Go.Proofs.YteemeakjlfnapaaGreatDoor
