/- What the functions of the seat compute, part 4: the texts of the claim, one behind the other. Conditions: bounds, as each theorem names them. -/
import Derived.Test.YteemeakjlfnapaaGreatDoorTc
import Derived.Shelf.SlGeneric
import Derived.Ground.SlsfProg
import Derived.Shelf.SlSortCmp.NoneTotal
import Derived.Test.YteemeakjlfnapaaGreatDoorRows
import Derived.Lib.LaidTab
import Derived.Stop.LaidErr
import Derived.Shelf.Vars
import Derived.ProofKit
import Derived.Deep.DeepHandedRow
import Derived.Deep.DeepWitnessRowRef
import Derived.Deep.DeepLaidRun
import Derived.Test.YteemeakjlfnapaaGreatDoorLd
set_option linter.defProp false
set_option linter.unusedSimpArgs false
set_option linter.unusedVariables false
namespace Go.Proofs.YteemeakjlfnapaaGreatDoor.F
open Go Go.Av Go.Av.Ap
set_option maxRecDepth 100000
def sk:Ann:={ kinds:=[(1,.L),(4,.S)],hl:=[16],nl:=[16,21],lw:=[2,4,8],loops:=[(0,{ vals:=[(10,none),(11,none),(12,none),(2000,none),(2001,none),(3000,none),(3001,none)],locs:=[(1,2000,0),(2,3000,0)],lbs:=[(2000,2),(3000,2)] })] }
def gu:Ann:={ iso:=false,ha:=[7] }
noncomputable def km:List (Nat×(Func×Ann)):=[(104,(Tryz.f104,sk))]
def own:FuncId->Option Nat:=fun _=>none
noncomputable def other:FuncId->Option ((FuncId->List AV->M AV)->List AV->M AV):=fun f=>bif Nat.beq f 163 then some (cW T 25)else none
noncomputable def pg:Pg:={ T:=T,funcs:=oD km,own:=own,other:=other,nw:=fun f=>bif Nat.beq f 163 then true else false }
def hOther:cN pg:=by
 intro f E hE call calls hc;have h0:other f=some E:=hE;unfold other at h0;rcases dn h0 with rfl|h0
 ·exact mw _ _ _ _
 cases h0
noncomputable def L104_0(call:FuncId->RR)(fx:bS AV)(a:RR)(b:List AV):M AV:=ae (af (am T BinOp.lss 3 (nth b 2) (nth b 1))) (fun c=>aw c (ae (af (ak T 25 (nth b 0) (nth b 2))) (fun d=>ae (bi T 76 d) (fun e=>ae (aC 3 e) (fun f=>ae (af (aa T 76 (.ip (ab f)) 1)) (fun g=>ae (af (ah T 27 g)) (fun h=>ae (cR (call 104 [h])) (fun i=>ae (af (ak T 25 (nth b 4) (nth b 2))) (fun j=>ae (af (aa T 76 j 1)) (fun k=>ae (bI T 27 k i) (fun l=>ae (af (am T BinOp.add 3 (nth b 2) (.int IntKind.i64 1))) (fun m=>a [nth b 0,nth b 1,m,nth b 3,nth b 4,nth b 5,nth b 6]))))))))))) (ae (ao 2 [] (.agg [nth b 3,nth b 4])) (fun n=>M.pure (AV.agg [nth (ab n) 0,nth (ab n) 1]))))
def XL104_0{call:FuncId->RR}:bR (L104_0 call aj) fun _n=>L104_0 call aj  :=by
 intro a b c d;unfold L104_0;exact (aI.bnd (aI.const _) fun _=>(au (aI.bnd (aI.const _) fun _=>(aI.bnd (aI.const _) fun _=>(aI.bnd (aI.const _) fun _=>(aI.bnd (aI.const _) fun _=>(aI.bnd (aI.const _) fun _=>(aI.bnd (aI.const _) fun _=>(aI.bnd (aI.const _) fun _=>(aI.bnd (aI.const _) fun _=>(aI.bnd (aI.const _) fun _=>(aI.bnd (aI.const _) fun _=>c _)))))))))) (aI.const _)))
def FL104_0(call:FuncId->RR)(vs:List AV):aj (L104_0 call aj) vs=L104_0 call aj  (aj (L104_0 call aj)) vs:=bd (XL104_0) vs
noncomputable def S104(call:FuncId->RR)(fx:bS AV)(a0:AV):M AV:=ae (aC 2 a0) (fun a=>ae (call 163 [nth (ab a) 1]) (fun b=>ae (bK b) (fun c=>ae (af (aW T 25 b)) (fun d=>fx (L104_0 call fx) [b,d,.int IntKind.i64 0,nth (ab a) 0,b,.int IntKind.i64 0,.sl []]))))
def E104(call:FuncId->List AV->M AV)(fx:bS AV)(a0:AV):bX (pg.cx call Tryz.f104.ntmps sk) fx Tryz.f104 (own 104) [a0]=S104 call fx a0:=by kernel_rfl
def C104(a0:AV):ai pg 104 [a0]=aH (S104 (ai pg) aj (cl az a0)):=(aA hOther rfl rfl rfl _).trans (GW aH (E104 _ _ (cl az a0)))
end Go.Proofs.YteemeakjlfnapaaGreatDoor.F
namespace Go.Proofs.YteemeakjlfnapaaGreatDoor
open Go Go.Av Go.Av.Ap
set_option maxRecDepth 100000
@[simp] theorem FA24_0(cs:List AV):aa T 24 (.ip cs) 0=some (.ip (cs.drop 0)):=rfl
@[simp] theorem FH24_0(l k:Nat):aa T 24 (.hp l k) 0=some (.hp l (k+0)):=rfl
@[simp] theorem FA24_1(cs:List AV):aa T 24 (.ip cs) 1=some (.ip (cs.drop 1)):=rfl
@[simp] theorem FH24_1(l k:Nat):aa T 24 (.hp l k) 1=some (.hp l (k+1)):=rfl
@[simp] theorem FA27_0(cs:List AV):aa T 27 (.ip cs) 0=some (.ip (cs.drop 0)):=rfl
@[simp] theorem FH27_0(l k:Nat):aa T 27 (.hp l k) 0=some (.hp l (k+0)):=rfl
@[simp] theorem FA27_1(cs:List AV):aa T 27 (.ip cs) 1=some (.ip (cs.drop 1)):=rfl
@[simp] theorem FH27_1(l k:Nat):aa T 27 (.hp l k) 1=some (.hp l (k+1)):=rfl
@[simp] theorem FA29_0(cs:List AV):aa T 29 (.ip cs) 0=some (.ip (cs.drop 0)):=rfl
@[simp] theorem FH29_0(l k:Nat):aa T 29 (.hp l k) 0=some (.hp l (k+0)):=rfl
@[simp] theorem FA29_1(cs:List AV):aa T 29 (.ip cs) 1=some (.ip (cs.drop 1)):=rfl
@[simp] theorem FH29_1(l k:Nat):aa T 29 (.hp l k) 1=some (.hp l (k+1)):=rfl
@[simp] theorem FA29_2(cs:List AV):aa T 29 (.ip cs) 2=some (.ip (cs.drop 2)):=rfl
@[simp] theorem FH29_2(l k:Nat):aa T 29 (.hp l k) 2=some (.hp l (k+2)):=rfl
@[simp] theorem FA39_0(cs:List AV):aa T 39 (.ip cs) 0=some (.ip (cs.drop 0)):=rfl
@[simp] theorem FH39_0(l k:Nat):aa T 39 (.hp l k) 0=some (.hp l (k+0)):=rfl
@[simp] theorem FA39_1(cs:List AV):aa T 39 (.ip cs) 1=some (.ip (cs.drop 1)):=rfl
@[simp] theorem FH39_1(l k:Nat):aa T 39 (.hp l k) 1=some (.hp l (k+1)):=rfl
@[simp] theorem FA39_2(cs:List AV):aa T 39 (.ip cs) 2=some (.ip (cs.drop 2)):=rfl
@[simp] theorem FH39_2(l k:Nat):aa T 39 (.hp l k) 2=some (.hp l (k+2)):=rfl
@[simp] theorem FA41_0(cs:List AV):aa T 41 (.ip cs) 0=some (.ip (cs.drop 0)):=rfl
@[simp] theorem FH41_0(l k:Nat):aa T 41 (.hp l k) 0=some (.hp l (k+0)):=rfl
@[simp] theorem FA41_1(cs:List AV):aa T 41 (.ip cs) 1=some (.ip (cs.drop 1)):=rfl
@[simp] theorem FH41_1(l k:Nat):aa T 41 (.hp l k) 1=some (.hp l (k+1)):=rfl
@[simp] theorem FA41_2(cs:List AV):aa T 41 (.ip cs) 2=some (.ip (cs.drop 2)):=rfl
@[simp] theorem FH41_2(l k:Nat):aa T 41 (.hp l k) 2=some (.hp l (k+2)):=rfl
@[simp] theorem FA41_3(cs:List AV):aa T 41 (.ip cs) 3=some (.ip (cs.drop 3)):=rfl
@[simp] theorem FH41_3(l k:Nat):aa T 41 (.hp l k) 3=some (.hp l (k+3)):=rfl
@[simp] theorem FA41_4(cs:List AV):aa T 41 (.ip cs) 4=some (.ip (cs.drop 4)):=rfl
@[simp] theorem FH41_4(l k:Nat):aa T 41 (.hp l k) 4=some (.hp l (k+4)):=rfl
@[simp] theorem FA41_5(cs:List AV):aa T 41 (.ip cs) 5=some (.ip (cs.drop 5)):=rfl
@[simp] theorem FH41_5(l k:Nat):aa T 41 (.hp l k) 5=some (.hp l (k+5)):=rfl
@[simp] theorem FA41_6(cs:List AV):aa T 41 (.ip cs) 6=some (.ip (cs.drop 6)):=rfl
@[simp] theorem FH41_6(l k:Nat):aa T 41 (.hp l k) 6=some (.hp l (k+6)):=rfl
@[simp] theorem FA47_0(cs:List AV):aa T 47 (.ip cs) 0=some (.ip (cs.drop 0)):=rfl
@[simp] theorem FH47_0(l k:Nat):aa T 47 (.hp l k) 0=some (.hp l (k+0)):=rfl
@[simp] theorem FA47_1(cs:List AV):aa T 47 (.ip cs) 1=some (.ip (cs.drop 1)):=rfl
@[simp] theorem FH47_1(l k:Nat):aa T 47 (.hp l k) 1=some (.hp l (k+1)):=rfl
@[simp] theorem FA47_2(cs:List AV):aa T 47 (.ip cs) 2=some (.ip (cs.drop 2)):=rfl
@[simp] theorem FH47_2(l k:Nat):aa T 47 (.hp l k) 2=some (.hp l (k+2)):=rfl
@[simp] theorem FA47_3(cs:List AV):aa T 47 (.ip cs) 3=some (.ip (cs.drop 3)):=rfl
@[simp] theorem FH47_3(l k:Nat):aa T 47 (.hp l k) 3=some (.hp l (k+3)):=rfl
@[simp] theorem FA47_4(cs:List AV):aa T 47 (.ip cs) 4=some (.ip (cs.drop 4)):=rfl
@[simp] theorem FH47_4(l k:Nat):aa T 47 (.hp l k) 4=some (.hp l (k+4)):=rfl
@[simp] theorem FA47_5(cs:List AV):aa T 47 (.ip cs) 5=some (.ip (cs.drop 5)):=rfl
@[simp] theorem FH47_5(l k:Nat):aa T 47 (.hp l k) 5=some (.hp l (k+5)):=rfl
@[simp] theorem FA56_0(cs:List AV):aa T 56 (.ip cs) 0=some (.ip (cs.drop 0)):=rfl
@[simp] theorem FH56_0(l k:Nat):aa T 56 (.hp l k) 0=some (.hp l (k+0)):=rfl
@[simp] theorem FA56_1(cs:List AV):aa T 56 (.ip cs) 1=some (.ip (cs.drop 1)):=rfl
@[simp] theorem FH56_1(l k:Nat):aa T 56 (.hp l k) 1=some (.hp l (k+1)):=rfl
@[simp] theorem FA56_2(cs:List AV):aa T 56 (.ip cs) 2=some (.ip (cs.drop 2)):=rfl
@[simp] theorem FH56_2(l k:Nat):aa T 56 (.hp l k) 2=some (.hp l (k+2)):=rfl
@[simp] theorem FA56_3(cs:List AV):aa T 56 (.ip cs) 3=some (.ip (cs.drop 4)):=rfl
@[simp] theorem FH56_3(l k:Nat):aa T 56 (.hp l k) 3=some (.hp l (k+4)):=rfl
@[simp] theorem FA73_0(cs:List AV):aa T 73 (.ip cs) 0=some (.ip (cs.drop 0)):=rfl
@[simp] theorem FH73_0(l k:Nat):aa T 73 (.hp l k) 0=some (.hp l (k+0)):=rfl
@[simp] theorem FA73_1(cs:List AV):aa T 73 (.ip cs) 1=some (.ip (cs.drop 1)):=rfl
@[simp] theorem FH73_1(l k:Nat):aa T 73 (.hp l k) 1=some (.hp l (k+1)):=rfl
@[simp] theorem FA73_2(cs:List AV):aa T 73 (.ip cs) 2=some (.ip (cs.drop 2)):=rfl
@[simp] theorem FH73_2(l k:Nat):aa T 73 (.hp l k) 2=some (.hp l (k+2)):=rfl
@[simp] theorem FA73_3(cs:List AV):aa T 73 (.ip cs) 3=some (.ip (cs.drop 3)):=rfl
@[simp] theorem FH73_3(l k:Nat):aa T 73 (.hp l k) 3=some (.hp l (k+3)):=rfl
@[simp] theorem FA73_4(cs:List AV):aa T 73 (.ip cs) 4=some (.ip (cs.drop 5)):=rfl
@[simp] theorem FH73_4(l k:Nat):aa T 73 (.hp l k) 4=some (.hp l (k+5)):=rfl
@[simp] theorem FA73_5(cs:List AV):aa T 73 (.ip cs) 5=some (.ip (cs.drop 6)):=rfl
@[simp] theorem FH73_5(l k:Nat):aa T 73 (.hp l k) 5=some (.hp l (k+6)):=rfl
@[simp] theorem FA76_0(cs:List AV):aa T 76 (.ip cs) 0=some (.ip (cs.drop 0)):=rfl
@[simp] theorem FH76_0(l k:Nat):aa T 76 (.hp l k) 0=some (.hp l (k+0)):=rfl
@[simp] theorem FA76_1(cs:List AV):aa T 76 (.ip cs) 1=some (.ip (cs.drop 1)):=rfl
@[simp] theorem FH76_1(l k:Nat):aa T 76 (.hp l k) 1=some (.hp l (k+1)):=rfl
@[simp] theorem FA104_1(cs:List AV):aa T 104 (.ip cs) 1=some (.ip (cs.drop 1)):=rfl
@[simp] theorem FH104_1(l k:Nat):aa T 104 (.hp l k) 1=some (.hp l (k+1)):=rfl
@[simp] theorem FA141_0(cs:List AV):aa T 141 (.ip cs) 0=some (.ip (cs.drop 0)):=rfl
@[simp] theorem FH141_0(l k:Nat):aa T 141 (.hp l k) 0=some (.hp l (k+0)):=rfl
@[simp] theorem FA141_1(cs:List AV):aa T 141 (.ip cs) 1=some (.ip (cs.drop 9)):=rfl
@[simp] theorem FH141_1(l k:Nat):aa T 141 (.hp l k) 1=some (.hp l (k+9)):=rfl
@[simp] theorem FA141_2(cs:List AV):aa T 141 (.ip cs) 2=some (.ip (cs.drop 10)):=rfl
@[simp] theorem FH141_2(l k:Nat):aa T 141 (.hp l k) 2=some (.hp l (k+10)):=rfl
@[simp] theorem FA149_0(cs:List AV):aa T 149 (.ip cs) 0=some (.ip (cs.drop 0)):=rfl
@[simp] theorem FH149_0(l k:Nat):aa T 149 (.hp l k) 0=some (.hp l (k+0)):=rfl
@[simp] theorem FA149_1(cs:List AV):aa T 149 (.ip cs) 1=some (.ip (cs.drop 2)):=rfl
@[simp] theorem FH149_1(l k:Nat):aa T 149 (.hp l k) 1=some (.hp l (k+2)):=rfl
@[simp] theorem FA225_0(cs:List AV):aa T 225 (.ip cs) 0=some (.ip (cs.drop 0)):=rfl
@[simp] theorem FH225_0(l k:Nat):aa T 225 (.hp l k) 0=some (.hp l (k+0)):=rfl
@[simp] theorem FA225_1(cs:List AV):aa T 225 (.ip cs) 1=some (.ip (cs.drop 1)):=rfl
@[simp] theorem FH225_1(l k:Nat):aa T 225 (.hp l k) 1=some (.hp l (k+1)):=rfl
@[simp] theorem FA225_2(cs:List AV):aa T 225 (.ip cs) 2=some (.ip (cs.drop 2)):=rfl
@[simp] theorem FH225_2(l k:Nat):aa T 225 (.hp l k) 2=some (.hp l (k+2)):=rfl
@[simp] theorem LD3(x:AV)(l:List AV):ah T 3 (.ip (x:: l))=some x:=rfl
@[simp] theorem LD4(x:AV)(l:List AV):ah T 4 (.ip (x:: l))=some x:=rfl
@[simp] theorem LD9(x:AV)(l:List AV):ah T 9 (.ip (x:: l))=some x:=rfl
@[simp] theorem LD22(x:AV)(l:List AV):ah T 22 (.ip (x:: l))=some x:=rfl
@[simp] theorem LD24(cs:List AV):ah T 24 (.ip cs)=if 2<=cs.length then some (.agg (cs.take 2))else none:=rfl
@[simp] theorem LD25(x:AV)(l:List AV):ah T 25 (.ip (x:: l))=some x:=rfl
@[simp] theorem LD27(cs:List AV):ah T 27 (.ip cs)=if 2<=cs.length then some (.agg (cs.take 2))else none:=rfl
@[simp] theorem LD29(cs:List AV):ah T 29 (.ip cs)=if 3<=cs.length then some (.agg (cs.take 3))else none:=rfl
@[simp] theorem LD35(x:AV)(l:List AV):ah T 35 (.ip (x:: l))=some x:=rfl
@[simp] theorem LD36(x:AV)(l:List AV):ah T 36 (.ip (x:: l))=some x:=rfl
@[simp] theorem LD37(x:AV)(l:List AV):ah T 37 (.ip (x:: l))=some x:=rfl
@[simp] theorem LD41(cs:List AV):ah T 41 (.ip cs)=if 9<=cs.length then some (.agg (cs.take 9))else none:=rfl
@[simp] theorem LD47(cs:List AV):ah T 47 (.ip cs)=if 6<=cs.length then some (.agg (cs.take 6))else none:=rfl
@[simp] theorem LD54(x:AV)(l:List AV):ah T 54 (.ip (x:: l))=some x:=rfl
@[simp] theorem LD56(cs:List AV):ah T 56 (.ip cs)=if 5<=cs.length then some (.agg (cs.take 5))else none:=rfl
@[simp] theorem LD73(cs:List AV):ah T 73 (.ip cs)=if 12<=cs.length then some (.agg (cs.take 12))else none:=rfl
@[simp] theorem LD76(cs:List AV):ah T 76 (.ip cs)=if 3<=cs.length then some (.agg (cs.take 3))else none:=rfl
@[simp] theorem LD102(x:AV)(l:List AV):ah T 102 (.ip (x:: l))=some x:=rfl
@[simp] theorem LD139(x:AV)(l:List AV):ah T 139 (.ip (x:: l))=some x:=rfl
@[simp] theorem LD225(cs:List AV):ah T 225 (.ip cs)=if 3<=cs.length then some (.agg (cs.take 3))else none:=rfl
@[simp] theorem Fq(s:bn):aW T 9 (.str s)=some (.int .i64 s.length):=rfl
@[simp] theorem Dp(es:List AV):aW T 22 (.sl es)=some (.int .i64 es.length):=rfl
@[simp] theorem FA:aW T 22 .hn=some (.int .i64 0):=rfl
@[simp] theorem Fv(l k n s:Nat)(a:Bool):aW T 22 (.hs l k n s a)=some (.int .i64 n):=rfl
@[simp] theorem Ft(l:List Sig):aW T 22 (sigs l)=some (.int .i64 l.length):=(Dp _).trans (by simp)
@[simp] theorem Ak(es:List AV):aW T 25 (.sl es)=some (.int .i64 es.length):=rfl
@[simp] theorem FB:aW T 25 .hn=some (.int .i64 0):=rfl
@[simp] theorem Bi(l k n s:Nat)(a:Bool):aW T 25 (.hs l k n s a)=some (.int .i64 n):=rfl
@[simp] theorem vW(l:List bN):aW T 25 (aB l)=some (.int .i64 l.length):=(Ak _).trans (by simp[cE])
@[simp] theorem Dq(es:List AV):aW T 35 (.sl es)=some (.int .i64 es.length):=rfl
@[simp] theorem FC:aW T 35 .hn=some (.int .i64 0):=rfl
@[simp] theorem Fw(l k n s:Nat)(a:Bool):aW T 35 (.hs l k n s a)=some (.int .i64 n):=rfl
@[simp] theorem vX(l:List bn):aW T 35 (strs l)=some (.int .i64 l.length):=(Dq _).trans (by simp)
@[simp] theorem Ds(es:List AV):aW T 36 (.sl es)=some (.int .i64 es.length):=rfl
@[simp] theorem FD:aW T 36 .hn=some (.int .i64 0):=rfl
@[simp] theorem Fx(l k n s:Nat)(a:Bool):aW T 36 (.hs l k n s a)=some (.int .i64 n):=rfl
@[simp] theorem Bf(l:List Exp):aW T 36 (bO l)=some (.int .i64 l.length):=(Ds _).trans (by simp[eM])
@[simp] theorem Dt(es:List AV):aW T 37 (.sl es)=some (.int .i64 es.length):=rfl
@[simp] theorem FE:aW T 37 .hn=some (.int .i64 0):=rfl
@[simp] theorem Fy(l k n s:Nat)(a:Bool):aW T 37 (.hs l k n s a)=some (.int .i64 n):=rfl
@[simp] theorem Bg(l:List Fun):aW T 37 (fV l)=some (.int .i64 l.length):=(Dt _).trans (by simp)
@[simp] theorem Al(es:List AV):aW T 54 (.sl es)=some (.int .i64 es.length):=rfl
@[simp] theorem FF:aW T 54 .hn=some (.int .i64 0):=rfl
@[simp] theorem Bj(l k n s:Nat)(a:Bool):aW T 54 (.hs l k n s a)=some (.int .i64 n):=rfl
@[simp] theorem Fu(l:List Ty):aW T 54 (dS l)=some (.int .i64 l.length):=(Al _).trans (by simp)
@[simp] theorem Du(es:List AV):aW T 78 (.sl es)=some (.int .i64 es.length):=rfl
@[simp] theorem FG:aW T 78 .hn=some (.int .i64 0):=rfl
@[simp] theorem Fz(l k n s:Nat)(a:Bool):aW T 78 (.hs l k n s a)=some (.int .i64 n):=rfl
@[simp] theorem Bh(l:List Face):aW T 78 (faces l)=some (.int .i64 l.length):=(Du _).trans (by simp)
@[simp] theorem Fo(es:List AV):aW T 102 (.sl es)=some (.int .i64 es.length):=rfl
@[simp] theorem E0:aW T 102 .hn=some (.int .i64 0):=rfl
@[simp] theorem EX(l k n s:Nat)(a:Bool):aW T 102 (.hs l k n s a)=some (.int .i64 n):=rfl
@[simp] theorem Be(es:List AV):aW T 196 (.sl es)=some (.int .i64 es.length):=rfl
@[simp] theorem E1:aW T 196 .hn=some (.int .i64 0):=rfl
@[simp] theorem EY(l k n s:Nat)(a:Bool):aW T 196 (.hs l k n s a)=some (.int .i64 n):=rfl
@[simp] theorem EW(l:List Int):aW T 196 (ints l)=some (.int .i64 l.length):=(Be _).trans (by simp)
@[simp] theorem Fp(es:List AV):aW T 222 (.sl es)=some (.int .i64 es.length):=rfl
@[simp] theorem E2:aW T 222 .hn=some (.int .i64 0):=rfl
@[simp] theorem EZ(l k n s:Nat)(a:Bool):aW T 222 (.hs l k n s a)=some (.int .i64 n):=rfl
def qw{l:List Sig}{n:Int}(h0:0<=n)(h:n<(l.length:Int)):ak T 22 (sigs l) (.int .i64 n)=some (.ip (ab (Sig.av l[n.toNat]!))):=cF (T:=T) (t:=22) (e:=56) rfl rfl rfl (fun _=>by first|rfl|(simp;done)|(simp;rfl)) h0 h
def lU{l:List bN}{n:Int}(h0:0<=n)(h:n<(l.length:Int)):ak T 25 (aB l) (.int .i64 n)=some (.ip (ab (a7 l[n.toNat]!))):=by rw[aB,cE];exact cF (T:=T) (t:=25) (e:=76) rfl rfl rfl (fun _=>by first|rfl|(simp;done)|(simp;rfl)) h0 h
def uD{l:List bn}{n:Int}(h0:0<=n)(h:n<(l.length:Int)):ak T 35 (strs l) (.int .i64 n)=some (.ip (ab (AV.str l[n.toNat]!))):=cF (T:=T) (t:=35) (e:=9) rfl rfl rfl (fun _=>by first|rfl|(simp;done)|(simp;rfl)) h0 h
def pm{l:List Exp}{n:Int}(h0:0<=n)(h:n<(l.length:Int)):ak T 36 (bO l) (.int .i64 n)=some (.ip (ab (Exp.av l[n.toNat]!))):=by rw[bO,eM];exact cF (T:=T) (t:=36) (e:=47) rfl rfl rfl (fun _=>by first|rfl|(simp;done)|(simp;rfl)) h0 h
def y6{l:List Fun}{n:Int}(h0:0<=n)(h:n<(l.length:Int)):ak T 37 (fV l) (.int .i64 n)=some (.ip (ab (Fun.av l[n.toNat]!))):=cF (T:=T) (t:=37) (e:=73) rfl rfl rfl (fun _=>by first|rfl|(simp;done)|(simp;rfl)) h0 h
def lV{l:List Ty}{n:Int}(h0:0<=n)(h:n<(l.length:Int)):ak T 54 (dS l) (.int .i64 n)=some (.ip (ab (Ty.av l[n.toNat]!))):=cF (T:=T) (t:=54) (e:=27) rfl rfl rfl (fun _=>by first|rfl|(simp;done)|(simp;rfl)) h0 h
def Fl{l:List Face}{n:Int}(h0:0<=n)(h:n<(l.length:Int)):ak T 78 (faces l) (.int .i64 n)=some (.ip (ab (Face.av l[n.toNat]!))):=cF (T:=T) (t:=78) (e:=24) rfl rfl rfl (fun _=>by first|rfl|(simp;done)|(simp;rfl)) h0 h
def Bc{a b:List bN}(h:(a.length+b.length)*48<=140737488355328):dz T 25 (aB a) (aB b)=some (aB (a++b)):=by
 have:=jF (T:=T) (t:=25) (e:=76) rfl rfl rfl (f:=a7) (fun _=>by first|rfl|(simp;done)|(simp;rfl)) (a:=a) (b:=b) h (by decide)
 simpa [aB,cE]using this
def Fj{a b:List bn}(h:(a.length+b.length)*16<=140737488355328):dz T 35 (strs a) (strs b)=some (strs (a++b)):=by
 have:=jF (T:=T) (t:=35) (e:=9) rfl rfl rfl (f:=AV.str) (fun _=>by first|rfl|(simp;done)|(simp;rfl)) (a:=a) (b:=b) h (by decide)
 simpa [strs]using this
def Dk{a b:List Exp}(h:(a.length+b.length)*96<=140737488355328):dz T 36 (bO a) (bO b)=some (bO (a++b)):=by
 have:=jF (T:=T) (t:=36) (e:=47) rfl rfl rfl (f:=Exp.av) (fun _=>by first|rfl|(simp;done)|(simp;rfl)) (a:=a) (b:=b) h (by decide)
 simpa [bO,eM]using this
def Dl{a b:List Ty}(h:(a.length+b.length)*32<=140737488355328):dz T 54 (dS a) (dS b)=some (dS (a++b)):=by
 have:=jF (T:=T) (t:=54) (e:=27) rfl rfl rfl (f:=Ty.av) (fun _=>by first|rfl|(simp;done)|(simp;rfl)) (a:=a) (b:=b) h (by decide)
 simpa [dS]using this
def D7(e:AV)(es:List AV):bX (qP Tryz.f163.ntmps gu) (ct 0) Tryz.f163 (some 3) [.sl (e:: es)]=ae (af (dz T 25 (.sl []) (.sl (e:: es)))) fun v=>ae (af (some v)) M.pure:=by kernel_rfl
def D8:bX (qP Tryz.f163.ntmps gu) (ct 0) Tryz.f163 (some 3) [.hn]=ae (af (some (.sl []))) M.pure:=by kernel_rfl
def D9(l off:Nat):bX (qP Tryz.f163.ntmps gu) (ct 0) Tryz.f163 (some 3) [.hs l off 0 1 false]=ae (af (dz T 25 (.sl []) (.hs l off 0 1 false))) fun v=>ae (af (some v)) M.pure:=by kernel_rfl
def Ea(l off:Nat):dz T 25 (.sl []) (.hs l off 0 1 false)=some (.sl []):=by rfl
def tj(call:FuncId->List AV->M AV)(args:List AV)(h:Hp)(S:ay)(β:List bj)(w:World)(vs:List Value)(hr:gB T 25 call args h≠.fail)(hg:nH β h w)(hw:Wf S w)(hh:cy S β w h)(hv:aY S β args vs):
  Calls Tryz.prog 163 vs.toArray w (c9 (some 3) S β h w (gB T 25 call args h)):=by
 have key:∀es,args=[.sl es]->Calls Tryz.prog 163 vs.toArray w (c9 (some 3) S β h w (gB T 25 call args h)):=by
  rintro es rfl;exact (ic (cx:=qP Tryz.f163.ntmps gu) (own:=some 3) (E:=fun es h=>gB T 25 call [.sl es] h) tok (kB _ _) (pF _ _) Tryz.func163 rfl (fun h=>by rfl) (fun e es h=>by rw[D7];exact JJ (sw _) h) (fun h=>by rw[D8];rfl) (fun l off h=>by rw[D9,Ea];rfl) hr hg hw hh hv).1
 unfold gB at hr;split at hr
 ·exact key _ rfl
 ·exact absurd rfl hr
end Go.Proofs.YteemeakjlfnapaaGreatDoor
namespace Go.Proofs.YteemeakjlfnapaaGreatDoor.F
open Go Go.Av Go.Av.Ap
set_option maxRecDepth 100000
def El(e:AV)(es:List AV):bX (qP Tryz.f163.ntmps gu) (ct 0) Tryz.f163 none [.sl (e:: es)]=ae (appH T 25 true (.sl []) (.sl (e:: es))) fun v=>ae (af (some v)) M.pure:=by kernel_rfl
def Em:bX (qP Tryz.f163.ntmps gu) (ct 0) Tryz.f163 none [.hn]=ae (af (some (.sl []))) M.pure:=by kernel_rfl
def En(l off:Nat):bX (qP Tryz.f163.ntmps gu) (ct 0) Tryz.f163 none [.hs l off 0 1 false]=ae (appH T 25 true (.sl []) (.hs l off 0 1 false)) fun v=>ae (af (some v)) M.pure:=by kernel_rfl
def tj(call:FuncId->List AV->M AV)(args:List AV)(h:Hp)(S:ay)(β:List bj)(w:World)(vs:List Value)(hr:cW T 25 call args h≠.fail)(hg:nH β h w)(hw:Wf S w)(hh:cy S β w h)(hv:aY S β args vs):
  Calls Tryz.prog 163 vs.toArray w (c9 none S β h w (cW T 25 call args h)):=by
 have key:∀es,args=[.sl es]->Calls Tryz.prog 163 vs.toArray w (c9 none S β h w (cW T 25 call args h)):=by
  rintro es rfl;exact (ic (cx:=qP Tryz.f163.ntmps gu) (E:=fun es h=>cW T 25 call [.sl es] h) tok (kB _ _) (pF _ _) Tryz.func163 rfl (fun h=>by rfl) (fun e es h=>by rw[El];exact JJ (sw _) h) (fun h=>by rw[Em];rfl) (fun l off h=>by rw[En];rfl) hr hg hw hh hv).1
 unfold cW at hr;split at hr
 ·exact key _ rfl
 ·exact absurd rfl hr
def ql:(km.map fun x=>Tryz.prog.funcs[x.1]?)=km.map fun x=>some x.2.1:=by kernel_rfl
def jv:(km.map fun x=>x.2.1.name== "runtime.NumGoroutine")=km.map fun _=>false:=by kernel_rfl
def FI{f k:Nat}{α:Type}{x y:α}{o:Option α}(h:(bif Nat.beq f k then some x else o)=some y):(f=k/\x=y)\/o=some y:=by
 cases hb:Nat.beq f k with
 |true=>rw[hb]at h;exact .inl ⟨GU hb,by simpa using h⟩
 |false=>rw[hb]at h;exact .inr h
def good:GoodPg Tryz.prog pg where
 tok:=tok
 funcs:=fun f fn a h=>by
  have:=kG km f (fn,a) h
  exact⟨eR ql _ this,eR jv _ this⟩
 other:=by
  intro f E hE call hC args h S β w vs hr hg hw hh hv;have h0:other f=some E:=hE;unfold other at h0;rcases FI h0 with⟨rfl,rfl⟩|h0
  ·exact⟨tj call args h S β w vs hr hg hw hh hv,by kernel_rfl⟩
  cases h0
 nw:=by
  intro f hf;have h0:(bif Nat.beq f 163 then true else false)=true:=hf;cases hb:Nat.beq f 163 with
  |true=>
   have:=GU hb
   subst this;exact⟨_,rfl,fun call args=>ow _ _ _ _⟩
  |false=>rw[hb]at h0;cases h0
def aE{α β:Type}{m:M α}{a:α}{h h':Hp}(e:m h= .ok a h')(f:α->M β):ae m f h=f a h':=by simp only[ae,e]
def AY(x:bN):(ab (a7 x)).length=3:=by simp
def im(l:List bN):aB l= .sl (l.map a7):=by rw[aB,cE]
def yc{q:Nat}{l:List bN}{i:Nat}{h:Hp}(hi:i<l.length)(hq:h[q]? = some (rowOf a7 l)):bi T 76 (.hp q (0+i*3)) h= .ok (a7 l[i]) h:=by
 have hlen:=eV (f:=a7) AY l;rw[oP (T:=T) (t:=76) rfl rfl hq (show 0+i*3+3<=_ by omega)];show R.ok (AV.agg (((rowOf a7 l).drop (0+i*3)).take 3)) h=_;rw[G5,ef AY l i hi,cg,ew]
def yL{q:Nat}{l:List bN}{i:Nat}{h:Hp}(hi:i<l.length)(hq:h[q]? = some (rowOf a7 l)):bI T 27 (.hp q (0+i*3+1)) l[i].2.av h= .ok (.tup []) h:=by
 have hlen:=eV (f:=a7) AY l;refine lQ (T:=T) (t:=27) rfl hq (Ap.gI _) (show 0+i*3+1+2<=_ by omega) (by decide) ?_
 have:=ef AY l i hi
 have h2:((rowOf a7 l).drop (0+i*3+1)).take 2=(((rowOf a7 l).drop (i*3)).take 3).drop 1:=by
  rw[List.drop_take,Jh];congr 2;omega
 rw[bw];show ((rowOf a7 l).drop (0+i*3+1)).take 2=_;rw[h2,this,cg];rfl
theorem Gv{q n i:Nat}(h:i<n):ak T 25 (.hs q 0 n 3 true) (.int .i64 (i:Int))=some (.hp q (0+i*3)):=by
 have e:ak T 25 (.hs q 0 n 3 true) (.int .i64 (i:Int))=if 0<=(i:Int)/\(i:Int)<(n:Int)then some (.hp q (0+(i:Int).toNat*3))else none:=rfl;rw[e,GR (by omega),GZ]
def zQ(t:Ty)(hb:t.fields.length<=4611686018427387904)(hk:∀f∈t.fields,ai pg 104 [f.2.av]=M.pure f.2.av)(q:Nat)(h:Hp)(hq:h[q]? = some (rowOf a7 t.fields))(x5 x6:AV):∀(n i:Nat),t.fields.length-i=n->i<=t.fields.length->
  aj (L104_0 (ai pg) aj) [.hs q 0 t.fields.length 3 true,.int .i64 t.fields.length,.int .i64 i,.int .i64 t.kind,.hs q 0 t.fields.length 3 true,x5,x6] h= .ok (.agg [.int .i64 t.kind,.hs q 0 t.fields.length 3 true]) h:=by
 intro n
 induction n with
 |zero=>
  intro i hn hi;rw[FL104_0];have h1:¬((i:Int)<(t.fields.length:Int)):=by omega
  have h2:ao 2 [] (.agg [.int .i64 t.kind,.hs q 0 t.fields.length 3 true])=M.pure (.agg [.int .i64 t.kind,.hs q 0 t.fields.length 3 true]):=aM rfl;simp[L104_0,h1,h2,M.pure]
 |succ n ih=>
  intro i hn hi;have hlt:i<t.fields.length:=by omega
  have h1:(i:Int)<(t.fields.length:Int):=by omega
  have ih':=ih (i+1) (by omega) (by omega);have hw:IntKind.i64.wrap ((i:Int)+1)=((i+1:Nat):Int):=aS (by omega);have hc:=hk t.fields[i] (GY hlt);rw[<- ih'];generalize hcode:aj (L104_0 (ai pg) aj) [.hs q 0 t.fields.length 3 true,.int .i64 t.fields.length,.int .i64 i,.int .i64 t.kind,.hs q 0 t.fields.length 3 true,x5,x6] h=code;rw[FL104_0]at hcode;simp -implicitDefEqProofs only[L104_0,aZ,be,bF,aF,aR,h1,HF,Hn,Gv hlt]at hcode;rw[aE (yc hlt hq)]at hcode;simp -implicitDefEqProofs only[sF,aK,cg,FA76_1,aF,HK,Hk,LD27,G4,G8,G5,Nat.reduceAdd,GQ,Hn,He,Hq,cb,hc,dB,FH76_1]at hcode;rw[show (i*3+1)=0+i*3+1 by omega]at hcode;rw[aE (yL hlt hq)]at hcode;simp -implicitDefEqProofs only[dF,aF,hw]at hcode;rw[<- hcode]
theorem t104:∀(d:Nat)(t:Ty),rC d t->ai pg 104 [t.av]=M.pure t.av
 |0,t,h=>h.elim
 | d+1,t,h=>by
  have hlen:t.fields.length<=100:=h.1;have ih:∀f∈t.fields,ai pg 104 [f.2.av]=M.pure f.2.av:=fun f hf=>t104 d f.2 (h.2 f hf);have e0:ai pg 163 [aB t.fields]=cW T 25 (ai pg) [aB t.fields]:=eb hOther rfl _;have e1:=my (T:=T) (t:=25) (f:=a7) (sz:=3) rfl rfl rfl rfl rfl (by decide) (by decide) (fun x=>fl x) (ai pg) t.fields (show t.fields.length*48<=140737488355328 by omega) [];rw[<- im,<- e0]at e1;rw[C104];funext hp;show aH _ hp=R.ok t.av hp;by_cases hf:t.fields=[]
  ·rw[GR hf]at e1;have e2:ao 2 [] (.agg [.int .i64 t.kind,.sl []])=M.pure (.agg [.int .i64 t.kind,.sl []]):=aM rfl;have key:S104 (ai pg) aj (cl az t.av) []= .ok (.agg [.int .i64 t.kind,.sl []]) []:=by
    simp only[S104,lr,dG,aK,bw,aZ,be];rw[aE e1];simp only[bK,bc,GP,aF,Ak];rw[FL104_0];simp[L104_0,e2,M.pure]
   unfold aH;rw[key];have:(AV.agg [.int .i64 t.kind,.sl []])=t.av:=by rw[<- cb,hf];rfl
   rw[this];simp only[R.ok.injEq,Jw];exact (Clean.frz (fun g=>lr g t) 6 [])
  ·rw[if_neg hf]at e1;have hq:([]++[rowOf a7 t.fields]:Hp)[0]? = some (rowOf a7 t.fields):=rfl;have key:S104 (ai pg) aj (cl az t.av) []= .ok (.agg [.int .i64 t.kind,.hs 0 0 t.fields.length 3 true]) ([]++[rowOf a7 t.fields]):=by
    simp only[S104,lr,dG,aK,bw,aZ,be];rw[aE e1];simp only[bK,bc,GP,aF,Bi,G8];exact zQ t (by omega) ih 0 _ hq _ _ t.fields.length 0 rfl (by omega)
   unfold aH;rw[key];have hfr:=kI (f:=a7) AY (fun x=>by rw[cg,ew]) (fun x g=>xq g x) (by decide) hq 5;have:fU 6 ([]++[rowOf a7 t.fields]) (.agg [.int .i64 t.kind,.hs 0 0 t.fields.length 3 true])=t.av:=by
    rw[<- cb,im,<- hfr];rfl
   show R.ok (fU 6 _ _) hp=_;rw[this]
end Go.Proofs.YteemeakjlfnapaaGreatDoor.F
namespace Go.Proofs.YteemeakjlfnapaaGreatDoor
open Go Go.Av Go.Av.Ap
def CB(call:FuncId->List AV->M AV)(args:List AV)(h:Hp)(S:ay)(β:List bj)(w:World)(vs:List Value)(hr:iJ call args h≠.fail)(hg:nH β h w)(hw:Wf S w)(hh:cy S β w h)(hv:aY S β args vs):
  Calls Tryz.prog 104 vs.toArray w (c9 none S β h w (iJ call args h)):=by
 unfold iJ at hr |-;split at hr
 ·rename_i v;cases hc:Aj 5 v with
  |false=>rw[hc]at hr;exact absurd rfl hr
  |true=>
   obtain⟨t,rfl,ht⟩:=r5 5 v hc;have e:=JJ (F.t104 5 t ht) h
   have:=(lq F.good F.hOther 104 [t.av] h S β w vs (by rw[e];simp[M.pure]) hg hw hh hv).1
   rw[e]at this;exact this
 ·exact absurd rfl hr
theorem oQ:∀(d:Nat)(t:Ty),cp d t=true->rC d t
 |0,t,h=>by cases h
 |d+1,t,h=>by
  rw[cU]at h;simp only[GO,G0,GT]at h;exact⟨by have:=h.1.1.2;omega,fun f hf=>oQ d f.2 (h.2.1 f hf).2⟩
end Go.Proofs.YteemeakjlfnapaaGreatDoor
namespace Go.Proofs
open Go.Shelf
end Go.Proofs
namespace Go.Proofs.YteemeakjlfnapaaGreatDoor.D
open Go Go.Av Go.Av.Ap
set_option maxRecDepth 100000
noncomputable def pg:Pg:={ T:=T,funcs:=oD km,own:=own,other:=fun _=>none }
def hOther:cN pg:=fun f E h=>by cases h
@[simp] theorem Fg(t:Nat)(a b:bn):am T .gtr t (.str a) (.str b)=some (.bool !(aU a b||a== b)):=rfl
def good:@GoodPg ⟨True⟩ Tryz.prog pg:=by
 letI:Dr:=⟨True⟩
 exact⟨tok,rc,(fun f E h=>by cases h),(fun f h=>by cases h)⟩
end Go.Proofs.YteemeakjlfnapaaGreatDoor.D
namespace Go.Proofs.YteemeakjlfnapaaGreatDoor
open Go Go.Av Go.Av.Ap Go.RowKit Go.Sort
set_option maxRecDepth 1000000
end Go.Proofs.YteemeakjlfnapaaGreatDoor
namespace Go.Proofs.YteemeakjlfnapaaGreatDoor
open Go Go.Av Go.RowKit
set_option maxRecDepth 100000
def FJ{α:Type}{f k:Nat}{x:α}{o:Option α}{y:α}(h:(bif Nat.beq f k then some x else o)=some y):(f=k/\x=y)\/o=some y:=by
 cases hb:Nat.beq f k with
 |true=>rw[hb]at h;exact .inl ⟨GU hb,by simpa using h⟩
 |false=>rw[hb]at h;exact .inr h
def xd{α:Type}{f k:Nat}{x y:α}{o:Option α}{P:Prop}(h1:f=k->x=y->P)(h2:o=some y->P)(h:(bif Nat.beq f k then some x else o)=some y):P:=(FJ h).elim (fun h=>h1 h.1 h.2) h2
def good:GoodPg Tryz.prog pg where
 tok:=tok
 funcs:=rc
 other:=by
  intro f E hE call hC args h S β w vs hr hg hw hh hv;have h0:other f=some E:=hE;unfold other at h0;revert h0
  repeat' refine xd ?_ ?_
  all_goals first
   |(intro h0;cases h0;done)
   |(rintro rfl rfl;exact absurd rfl hr)
   |(rintro rfl rfl;exact⟨ED call args h S β w vs hr hg hw hh hv,by kernel_rfl⟩)
   |(rintro rfl rfl;exact⟨Cz call args h S β w vs hr hg hw hh hv,by kernel_rfl⟩)
   |(rintro rfl rfl;exact⟨CE call args h S β w vs hr hg hw hh hv,by kernel_rfl⟩)
   |(rintro rfl rfl;exact⟨CF call args h S β w vs hr hg hw hh hv,by kernel_rfl⟩)
   |(rintro rfl rfl;exact⟨CG call args h S β w vs hr hg hw hh hv,by kernel_rfl⟩)
   |(rintro rfl rfl;exact⟨tj call args h S β w vs hr hg hw hh hv,by kernel_rfl⟩)
   |(rintro rfl rfl;exact⟨CB call args h S β w vs hr hg hw hh hv,by kernel_rfl⟩)
   |(rintro rfl rfl;exact⟨CH call args h S β w vs hr hg hw hh hv,by kernel_rfl⟩)
   |(rintro rfl rfl;exact⟨CI call args h S β w vs hr hg hw hh hv,by kernel_rfl⟩)
 nw:=by
  intro f hf;have h0:(bif Nat.beq f 103 then true else false)=true:=hf;cases hb:Nat.beq f 103 with
  |true=>
   have:=GU hb
   subst this;exact⟨_,rfl,ow T 54⟩
  |false=>rw[hb]at h0;cases h0
end Go.Proofs.YteemeakjlfnapaaGreatDoor
namespace Go.Proofs.YteemeakjlfnapaaGreatDoor
open Go Go.Av Go.ChangeShapes Go.WideShapes Go.ChangeAt Go.RowKit
set_option maxRecDepth 1000000
def FY:ownKnob Tryz.prog.godebug=none:=by kernel_rfl
def Ci{W:World}(hL:laidMetH Tryz.prog Rows.compatClaimsRow.laid W)(hS:W.ShapedOpen Tryz.prog):GOKw W:=by
 have h0:laidMet Tryz.prog Rows.compatClaimsRow.laid W:=hL;have h1:=h0.tail;have h2:=h1.tail;have h3:=h2.tail;have h4:=h3.tail;have hp:=Lib.tabIs_of_head (k:=.u64) (zs:=Lib.pow10Tab) (g:=3) (t:=278) (e:=214) (n:=20) (by kernel_rfl) (by kernel_rfl) (by kernel_rfl) (by kernel_rfl) (by kernel_rfl) (by kernel_rfl) h2;have ha:=Lib.tabIs_of_head (k:=.u8) (zs:=Lib.asciiSpaceTab) (g:=0) (t:=228) (e:=5) (n:=256) (by kernel_rfl) (by kernel_rfl) (by kernel_rfl) (by kernel_rfl) (by kernel_rfl) (by kernel_rfl) h4;have hvar:∀ {name:String} {g:Nat} {cs:Array Value},Tryz.prog.globalNamed name=some g->W.var? Tryz.prog name=some cs->∃t fr,W.heap[g]? = some (.cells cs t fr):=by
  intro name g cs hn hv;unfold World.var? at hv;rw[hn]at hv;simp only[Ir]at hv;split at hv
  ·rename_i c t fr hh;simp only[GN]at hv;subst hv;exact⟨t,fr,hh⟩
  ·cases hv
 refine⟨hvar (by kernel_rfl) ha,?_,hvar (by kernel_rfl) hp⟩;exact cell_of_shapedOpen_int (zero:=#[.int .i64 0]) (t:=3) hS (H9 (by kernel_rfl)) (by kernel_rfl) rfl (by kernel_rfl) (by kernel_rfl) Tryz.underlying3
mutual
def ie:DataW Unit->List Value
 |.lit (.bool b)=>[.bool b]
 |.lit (.int k n)=>[.int k n]
 |.lit (.string s)=>[.string ⟨s.toArray⟩]
 |.agg ps=>xA ps
 |_=>[]
def xA:List (DataW Unit)->List Value
 |[]=>[]
 |d:: ds=>ie d++xA ds
end
def tk:List Value:=[9,13,1,32,133,101,160,5760,5600,8192,8202,1,8232,8233,1,8239,8287,48,12288,12288,1].map (Value.int .u16)
noncomputable def low:Nat:=(World.holding Tryz.prog default ⟨#[],#[],[]⟩).heap.size
noncomputable def yR:List (Option (Array Value)):=[some (ie Rows.laid_strings_asciiSpace).toArray,some #[.pointer (some ⟨low,0,none⟩)],
 none,some (ie Rows.laid_internal_strconv_uint64pow10).toArray,none,none,some (ie Rows.laid_math_bits_deBruijn32tab).toArray,some (ie Rows.laid_math_bits_deBruijn64tab).toArray]
def p9:List Obj->List (Option (Array Value))->List Obj
 |.cells _ t fr:: os,some c:: cs=>.cells c t fr:: p9 os cs
 |o:: os,_:: cs=>o:: p9 os cs
 |os,[]=>os
 |[],_=>[]
noncomputable def kN(os:Os):World:=
 let w0:=World.holding Tryz.prog os ⟨#[.cells #[.slice (some ⟨low+1,0,none⟩) 7 7,.slice none 0 0,.int .i64 2] 267,.cells tk.toArray 270],#[],[]⟩
 { w0 with heap:=(p9 w0.heap.toList yR).toArray }
def xW(os:Os)(args:Array Value):laidMet Tryz.prog Rows.compatClaimsRow.laid ((kN os).forCall (fun _ _=>0) ⟨#[],args,[]⟩).memory:=
 laidMet_of_run3 8 (by kernel_rfl) (by kernel_rfl) (by kernel_rfl)
end Go.Proofs.YteemeakjlfnapaaGreatDoor
namespace Go.Proofs.YteemeakjlfnapaaGreatDoor
open Go Go.Av Go.Av.Ap Go.RowKit
set_option maxRecDepth 1000000
section
variable {H:Type} {enc:TypeId×Value->H} {W:World}
theorem nj:reachBytes=140737488351232:=rfl
theorem Ty.lim_mk{k:Int}{fs:List bN}(h2:fs.length<=140737488355328)(h3:∀v∈fs,v.2.Lim):(Ty.mk k fs).Lim:=fun j=>match j with
 |0=>trivial
 |j+1=>⟨h2,fun x hx=>h3 x hx j⟩
theorem tm{N:Nat}(h:Rd enc Tryz.prog W N 27 (fun v:Ty=>v.cells) Ty.Lim):Rd enc Tryz.prog W (N+1) 25 (fun l:List bN=>[aB l]) (fun l=>l.length<=140737488355328/\∀v∈l,v.2.Lim):=
 (ni ((iQ Tryz.underlying76 (by kernel_rfl) (dp (tn Tryz.underlying9) rfl (by kernel_rfl:_=1) (dp h rfl (by kernel_rfl:_=2) kh))).map (fun x=>((x.1,x.2.1):bN)) (cells':=fun f=>ab (a7 f)) (Ok':=fun f=>f.2.Lim) (fun x=>by simp[Ty.cells_eq]) (fun x h=>h.2.1))
  Tryz.underlying25 (by kernel_rfl:_=3) (by decide) (by kernel_rfl:_=48) (ev:=a7) (kC fun v=>by rw[fM];rfl)).map id (fun l=>by simp[aB,cE]) (fun l h=>⟨by have:=h.1;rw[nj]at this;simp only[id];omega,h.2⟩)
theorem yy:∀N,Rd enc Tryz.prog W N 27 (fun v:Ty=>v.cells) Ty.Lim
 |0=>.zero
 | N+1=>(iQ Tryz.underlying27 (by kernel_rfl) (dp (yx Tryz.underlying3) rfl (by kernel_rfl:_=1) (dp ((tm (yy N)).le (JH N)) rfl (by kernel_rfl:_=1) kh))).map (fun x=>Ty.mk x.1 x.2.1)
   (fun x=>by simp[Ty.cells_eq,Ty.kind,Ty.fields]) (fun x h=>Ty.lim_mk h.2.1.1 h.2.1.2)
theorem CP(N:Nat):Rd enc Tryz.prog W N 54 (fun l:List Ty=>[dS l]) (fun l=>l.length<=140737488355328/\∀v∈l,v.Lim):=
 (ni (yy N) Tryz.underlying54 (by kernel_rfl:_=2) (by decide) (by kernel_rfl:_=32) (ev:=Ty.av) (kC fun v=>rfl)).map id (fun l=>by simp[dS]) (fun l h=>⟨by have:=h.1;rw[nj]at this;simp only[id];omega,h.2⟩)
theorem CO(N:Nat):Rd enc Tryz.prog W (N+1) 56 (fun s:Sig=>ab s.av) Sig.Lim:=
 (iQ Tryz.underlying56 (by kernel_rfl) (dp (tn Tryz.underlying9) rfl (by kernel_rfl:_=1) (dp (CP N) rfl (by kernel_rfl:_=1) (dp (yy N) rfl (by kernel_rfl:_=2) (dp (yx Tryz.underlying3) rfl (by kernel_rfl:_=1) kh))))).map
  (fun x=>(⟨x.1,x.2.1,x.2.2.1,x.2.2.2.1⟩:Sig)) (fun x=>by simp[Ty.cells_eq]) (fun x h=>⟨h.2.1.1,h.2.1.2,h.2.2.1⟩)
theorem Ae(N:Nat):Rd enc Tryz.prog W N 22 (fun l:List Sig=>[sigs l]) (fun l=>l.length<=140737488355328/\∀v∈l,v.Lim):=
 ((ni (CO N) Tryz.underlying22 (by kernel_rfl:_=5) (by decide) (by kernel_rfl:_=80) (ev:=Sig.av) (kC fun v=>rfl)).map id (fun l=>by simp[sigs]) (fun l h=>⟨by have:=h.1;rw[nj]at this;simp only[id];omega,h.2⟩)).le (JH N)
theorem uq(N:Nat):Rd enc Tryz.prog W (N+1) 24 (fun f:Face=>ab f.av) Face.Lim:=
 (iQ Tryz.underlying24 (by kernel_rfl) (dp (tn Tryz.underlying9) rfl (by kernel_rfl:_=1) (dp (Ae N) rfl (by kernel_rfl:_=1) kh))).map
  (fun x=>(⟨x.1,x.2.1⟩:Face)) (fun x=>by simp) (fun x h=>⟨h.2.1.1,h.2.1.2⟩)
end
end Go.Proofs.YteemeakjlfnapaaGreatDoor
namespace Go.Proofs.YteemeakjlfnapaaGreatDoor
open Go Go.Av Go.Av.Ap Go.RowKit
set_option maxRecDepth 1000000
section
variable {H:Type} {enc:TypeId×Value->H} {W:World}
theorem Exp.lim_mk{o n:Int}{s m:bn}{ns:List bn}{es:List Exp}(h1:ns.length<=8796093022208)(h2:es.length<=140737488355328)(h3:∀v∈es,v.Lim):(Exp.mk o n s m ns es).Lim:=fun j=>match j with
 |0=>trivial
 |j+1=>⟨h1,h2,fun x hx=>h3 x hx j⟩
end
end Go.Proofs.YteemeakjlfnapaaGreatDoor
namespace Go.Proofs.YteemeakjlfnapaaGreatDoor
open Go Go.Av Go.Av.Ap
set_option maxRecDepth 100000
@[simp] theorem DU(t:Nat)(a b:Int):am T .geq t (.int .u8 a) (.int .u8 b)=some (.bool (decide (b<=a))):=rfl
@[simp] theorem DV(t:Nat)(a b:Int):am T .leq t (.int .u8 a) (.int .u8 b)=some (.bool (decide (a<=b))):=rfl
@[simp] theorem uA(t:Nat)(a b:bn):am T .leq t (.str a) (.str b)=some (.bool (aU a b||a== b)):=rfl
def zT(f:AV)(F:bN->Bool)(l:List bN)(hb:l.length<=4611686018427387904)(hf:∀x∈l,bJ (ai pg) f [a7 x]=M.pure (.bool (F x))):∀(n:Nat)(i:Int),l.length-i.toNat=n->0<=i->i<=l.length->
  aj (L189_0 (ai pg) aj) [aB l,f,.int .i64 l.length,.int .i64 i]=M.pure (.int .i64 (bY F (l.drop i.toNat) i)):=by
 intro n
 induction n with
 |zero=>
  intro i hn hi hl;rw[FL189_0];simp only[L189_0];have h1:¬(i<(l.length:Int)):=by omega
  have h2:l.drop i.toNat=[]:=G6 (by omega);simp[h1,h2,bY]
 |succ n ih=>
  intro i hn hi hl;have h1:i<(l.length:Int):=by omega
  have hlt:i.toNat<l.length:=by omega
  have h2:bY F (l.drop i.toNat) i=if F l[i.toNat]=true then i else bY F (l.drop (i.toNat+1)) (i+1):=by rw[G2 hlt];rfl
  have h3:=hf l[i.toNat] (GY hlt);have h4:=ih (i+1) (by omega) (by omega) (by omega);rw[show (i+1).toNat=i.toNat+1 by omega]at h4;rw[FL189_0];simp only[L189_0];simp (disch:=omega) [h1,ff,lU,h3,h2];cases F l[i.toNat]
  ·simpa using h4
  ·simp
def t189(f:AV)(F:bN->Bool)(l:List bN)(hb:l.length<=4611686018427387904)(hc:∀g,cl g f=f)(hf:∀x∈l,bJ (ai pg) f [a7 x]=M.pure (.bool (F x))):ai pg 189 [aB l,f]=M.pure (.int .i64 (bY F l 0)):=by
 rw[C189];simp[S189,hc,zT f F l hb hf l.length 0 rfl (by omega) (by omega)]
def t131(f:AV)(F:bN->Bool)(l:List bN)(hb:l.length<=4611686018427387904)(hc:∀g,cl g f=f)(hf:∀x∈l,bJ (ai pg) f [a7 x]=M.pure (.bool (F x))):ai pg 131 [aB l,f]=M.pure (.bool (l.any F)):=by
 rw[C131];simp[S131,hc,t189 f F l hb hc hf,kK]
def zV(f:AV)(F:Ty->Bool)(l:List Ty)(hb:l.length<=4611686018427387904)(hf:∀x∈l,bJ (ai pg) f [Ty.av x]=M.pure (.bool (F x))):∀(n:Nat)(i:Int),l.length-i.toNat=n->0<=i->i<=l.length->
  aj (L204_0 (ai pg) aj) [dS l,f,.int .i64 l.length,.int .i64 i]=M.pure (.int .i64 (bY F (l.drop i.toNat) i)):=by
 intro n
 induction n with
 |zero=>
  intro i hn hi hl;rw[FL204_0];simp only[L204_0];have h1:¬(i<(l.length:Int)):=by omega
  have h2:l.drop i.toNat=[]:=G6 (by omega);simp[h1,h2,bY]
 |succ n ih=>
  intro i hn hi hl;have h1:i<(l.length:Int):=by omega
  have hlt:i.toNat<l.length:=by omega
  have h2:bY F (l.drop i.toNat) i=if F l[i.toNat]=true then i else bY F (l.drop (i.toNat+1)) (i+1):=by rw[G2 hlt];rfl
  have h3:=hf l[i.toNat] (GY hlt);have h4:=ih (i+1) (by omega) (by omega) (by omega);rw[show (i+1).toNat=i.toNat+1 by omega]at h4;rw[FL204_0];simp only[L204_0];simp (disch:=omega) [h1,ff,lV,h3,h2];cases F l[i.toNat]
  ·simpa using h4
  ·simp
def t204(f:AV)(F:Ty->Bool)(l:List Ty)(hb:l.length<=4611686018427387904)(hc:∀g,cl g f=f)(hf:∀x∈l,bJ (ai pg) f [Ty.av x]=M.pure (.bool (F x))):ai pg 204 [dS l,f]=M.pure (.int .i64 (bY F l 0)):=by
 rw[C204];simp[S204,hc,zV f F l hb hf l.length 0 rfl (by omega) (by omega)]
def t148(f:AV)(F:Ty->Bool)(l:List Ty)(hb:l.length<=4611686018427387904)(hc:∀g,cl g f=f)(hf:∀x∈l,bJ (ai pg) f [Ty.av x]=M.pure (.bool (F x))):ai pg 148 [dS l,f]=M.pure (.bool (l.any F)):=by
 rw[C148];simp[S148,hc,t204 f F l hb hc hf,kK]
def zP(f:AV)(F:Sig->Bool)(l:List Sig)(hb:l.length<=4611686018427387904)(hf:∀x∈l,bJ (ai pg) f [Sig.av x]=M.pure (.bool (F x))):∀(n:Nat)(i:Int),l.length-i.toNat=n->0<=i->i<=l.length->
  aj (L101_0 (ai pg) aj) [sigs l,f,.int .i64 l.length,.int .i64 i]=M.pure (.int .i64 (bY F (l.drop i.toNat) i)):=by
 intro n
 induction n with
 |zero=>
  intro i hn hi hl;rw[FL101_0];simp only[L101_0];have h1:¬(i<(l.length:Int)):=by omega
  have h2:l.drop i.toNat=[]:=G6 (by omega);simp[h1,h2,bY]
 |succ n ih=>
  intro i hn hi hl;have h1:i<(l.length:Int):=by omega
  have hlt:i.toNat<l.length:=by omega
  have h2:bY F (l.drop i.toNat) i=if F l[i.toNat]=true then i else bY F (l.drop (i.toNat+1)) (i+1):=by rw[G2 hlt];rfl
  have h3:=hf l[i.toNat] (GY hlt);have h4:=ih (i+1) (by omega) (by omega) (by omega);rw[show (i+1).toNat=i.toNat+1 by omega]at h4;rw[FL101_0];simp only[L101_0];simp (disch:=omega) [h1,ff,qw,h3,h2];cases F l[i.toNat]
  ·simpa using h4
  ·simp
def t101(f:AV)(F:Sig->Bool)(l:List Sig)(hb:l.length<=4611686018427387904)(hc:∀g,cl g f=f)(hf:∀x∈l,bJ (ai pg) f [Sig.av x]=M.pure (.bool (F x))):ai pg 101 [sigs l,f]=M.pure (.int .i64 (bY F l 0)):=by
 rw[C101];simp[S101,hc,zP f F l hb hf l.length 0 rfl (by omega) (by omega)]
def t199(b:UInt8):ai pg 199 [.int .u8 b.toNat]=M.pure (.bool (l8 b)):=by
 rw[C199];have e:decide ((b.toNat:Int)<=122)=decide (b.toNat<=122):=H7.2 (by omega);have e2:decide (97<=(b.toNat:Int))=decide (97<=b.toNat):=H7.2 (by omega);simp[S199,l8,e,e2]
def t202(b:UInt8):ai pg 202 [.int .u8 b.toNat]=M.pure (.bool (sM b)):=by
 rw[C202];have e:decide ((b.toNat:Int)<=57)=decide (b.toNat<=57):=H7.2 (by omega);have e2:decide (48<=(b.toNat:Int))=decide (48<=b.toNat):=H7.2 (by omega);simp[S202,sM,e,e2]
def t201(b:UInt8):ai pg 201 [.int .u8 b.toNat]=M.pure (.bool (mi b)):=by
 rw[C201];simp[S201,t199,t202,mi]
theorem A6{s:bn}{i:Nat}(h:i<s.length):eP T 9 (.str s) (.int .i64 (i:Int))=some (.int .u8 (s[i].toNat:Int)):=by
 have e1:eP T 9 (.str s) (.int .i64 (i:Int))=(if(i:Int)<0 then none else s[(i:Int).toNat]?.map fun b=>.int .u8 b.toNat):=rfl;rw[e1,if_neg (by omega),GZ,Ha h];rfl
def zU(F:UInt8->Bool)(f:AV)(s:bn)(hb:s.length<=4611686018427387904)(hf:∀b:UInt8,bJ (ai pg) f [.int .u8 b.toNat]=M.pure (.bool (F b))):∀(n i:Nat),s.length-i=n->i<=s.length->
  aj (L200_0 (ai pg) aj) [.str s,f,.int .i64 i]=M.pure (.int .i64 ((i+((s.drop i).takeWhile F).length:Nat):Int)):=by
 intro n
 induction n with
 |zero=>
  intro i hn hi;rw[FL200_0];simp only[L200_0];have h1:¬((i:Int)<(s.length:Int)):=by omega
  have h2:s.drop i=[]:=G6 (by omega);simp[h1,h2]
 | succ n ih=>
  intro i hn hi;have hlt:i<s.length:=by omega
  have h1:(i:Int)<(s.length:Int):=by omega
  have h2:s.drop i=s[i]:: s.drop (i+1):=G2 hlt;have h4:=ih (i+1) (by omega) (by omega);have hw:IntKind.i64.wrap ((i:Int)+1)=((i+1:Nat):Int):=aS (by omega);rw[FL200_0];simp only[L200_0,aZ,be,Fq,aF,bF,h1,HF,dI,A6 hlt,hf,aK,fT,aR,dF,hw,h4,h2,List.takeWhile_cons];cases F s[i]
  ·simp
  ·rw[GR rfl,GR rfl];congr 3;simp;omega
def t146(s:bn):ai pg 146 [.str s]=M.pure (.bool (lS s)):=by
 rw[C146];by_cases hs:s=[]
 ·subst hs;simp[S146,lS]
 ·have hs':(s== [])=false:=GX.2 hs;have hpos:0<s.length:=It.2 hs;have h0:=A6 (s:=s) (i:=0) hpos;have hd:s[0]=s.headD 0:=by cases s with|nil=>exact absurd rfl hs|cons c s=>rfl
  rw[hd]at h0;simp at h0;by_cases hl:s.length<=20
  ·have h1:=zU mi (.fn (.func 201) [] []) s (by omega) (fun b=>t201 b) s.length 0 (by simp) (by simp);have hsp:ai pg 200 [.str s,.fn (.func 201) [] []]=M.pure (.int .i64 (((s.takeWhile mi).length:Nat):Int)):=by
    rw[C200];simp only[S200,cl,c5];rw[show (AV.int .i64 0)=AV.int .i64 ((0:Nat):Int)from rfl,h1];simp
   have e1:decide (20<(s.length:Int))=false:=by rw[Ie];omega
   have e3:decide (20<s.length)=false:=by rw[Ie];omega
   have e4:decide (s.length<=20)=true:=by simpa using hl
   simp[S146,hs',h0,t199,hsp,e1,e3,e4,lS]
  ·have e1:decide (20<(s.length:Int))=true:=by rw[G0];omega
   have e3:decide (20<s.length)=true:=by rw[G0];omega
   have e4:decide (s.length<=20)=false:=by simpa using hl
   simp[S146,hs',h0,t199,e1,e3,e4,lS]
def t147(s:bn):ai pg 147 [.str iR,.str s]=M.pure (.bool (Lib.contains iR s)):=by
 rw[eb hOther (E:=gd) rfl];rfl
theorem uz(t:Nat)(a b:bn):am T .add t (.str a) (.str b)=if a.length+b.length<=4611686018427387904 then some (.str (a++b))else none:=rfl
def t76(s:bn):ai pg 76 [.str s]=M.pure (.bool (bE s)):=by
 rw[C76];have h1:=t146 s;unfold bE;cases hw:lS s with
 |false=>
  rw[hw]at h1;simp[S76,h1]
 |true=>
  have hl:=vT hw;rw[hw]at h1;have h2:=t147 ([32]++s++[32]);unfold iR at h2;have e1:am T .add 9 (.str [32]) (.str s)=some (.str ([32]++s)):=by rw[uz,GR (by simp;omega)]
  have e2:am T .add 9 (.str ([32]++s)) (.str [32])=some (.str ([32]++s++[32])):=by rw[uz,GR (by simp;omega)]
  simp only[S76,mu,h1,aK,dI,e1,aF,e2,h2,gP,aZ,fT,eQ,HM];rfl
def zM{t:Ty}(h:t.Lim)(k:Nat)(hk:k<t.fields.length):(t.fields[k]!).2.Lim:=by
 rw[Hd t.fields k hk];exact h.kid (GY hk)
theorem t116:∀(d:Nat),d<=4->∀(t:Ty),t.Lim->ai pg 116 [t.av,.int .i64 d]=M.pure (.bool (cp d t))
 |0,_,t,_=>by
  rw[C116];simp[S116,cp]
 | d + 1,hd,t,ht=>by
  have ih:=t116 d (by omega);have hlen:=ht.len;have hd1:IntKind.i64.wrap ((((d+1:Nat)):Int)-1)=(d:Int):=pj (by omega);have hloop:=pM (F:=L116_0 (ai pg) aj) (FL116_0 (ai pg)) (fun k=>[.int .i64 ((d+1:Nat):Int),.ip (ab t.av),aB t.fields,.int .i64 t.fields.length,.int .i64 k]) t.fields.length
   (fun k=>(bE (t.fields[k]!).1&&cp d (t.fields[k]!).2)&&(decide (k=0)||df (t.fields[k-1]!).1 (t.fields[k]!).1))
   (by simp[L116_0]) (fun k hk=>by
    have h1:(k:Int)<(t.fields.length:Int):=by omega
    have hix:=lU (l:=t.fields) (n:=(k:Int)) (by omega) h1;rw[GZ]at hix;have hm:t.fields[k]! ∈t.fields:=by rw[Hd t.fields k hk];exact GY hk
    have h2:=t76 (t.fields[k]!).1;have h3:=ih (t.fields[k]!).2 (zM ht k hk);have hw:IntKind.i64.wrap ((k:Int)+1)=(k:Int)+1:=by rw[aS (by omega)];simp
    have hd0:IntKind.i64.wrap (d:Int)=(d:Int):=yS (by omega);generalize t.fields[k]! = f at hix h2 h3 hm |-;rcases HD k with hk0|hk0
    ·subst hk0;have hix0:ak T 25 (aB t.fields) (.int .i64 0)=some (.ip (ab (a7 f))):=hix;have hw0:IntKind.i64.wrap 1=1:=rfl;simp[L116_0,hix0,h2,h3,hw0,hd0,hk];cases bE f.1<;>cases cp d f.2<;>simp
    ·have hp:IntKind.i64.wrap ((k:Int)-1)=((k-1:Nat):Int):=by
      rw[ff (by omega) (by omega)];omega
     have h4:((k-1:Nat):Int)<(t.fields.length:Int):=by omega
     have hix2:=lU (l:=t.fields) (n:=((k-1:Nat):Int)) (by omega) h4;rw[GZ]at hix2;generalize t.fields[k-1]! = g at hix2 |-;have hk1:¬k=0:=by omega
     simp[L116_0,h1,hix,h2,h3,hw,hd0,hp,hix2,hk0,hk1,hk];cases bE f.1<;>simp;cases h5:aU f.1 g.1<;>cases cp d f.2<;>by_cases h6:f.1=g.1<;>simp[df,h5,h6]) 0 (Hi _)
  have hall:((List.range' 0 t.fields.length).all fun k=>(bE (t.fields[k]!).1&&cp d (t.fields[k]!).2)&&(decide (k=0)||df (t.fields[k-1]!).1 (t.fields[k]!).1))=(t.fields.all (fun f=>bE f.1&&cp d f.2)&&f5 (fun a b=>df a.1 b.1) t.fields):=
   pt (fun f:bN=>bE f.1&&cp d f.2) (fun a b=>df a.1 b.1) t.fields
  rw[I1,hall]at hloop;rw[C116];have h0:¬((d:Int)+1=0):=by omega
  have hl2:aj (L116_0 (ai pg) aj) [.int .i64 ((d:Int)+1),.ip [.int .i64 t.kind,aB t.fields],aB t.fields,.int .i64 t.fields.length,.int .i64 0]=M.pure (.bool (t.fields.all (fun f=>bE f.1&&cp d f.2)&&f5 (fun a b=>df a.1 b.1) t.fields)):=by
   simpa using hloop
  have hR:cp (d+1) t=if((t.kind<0\/3<=t.kind)\/8<(t.fields.length:Int))\/¬t.kind=2/\0<t.fields.length then false else(t.fields.all (fun f=>bE f.1&&cp d f.2)&&f5 (fun a b=>df a.1 b.1) t.fields):=by
   rw[cU];generalize (t.fields.all (fun f=>bE f.1&&cp d f.2)&&f5 (fun a b=>df a.1 b.1) t.fields)=q;generalize t.fields.length=n;generalize t.kind=k;split
   ·rename_i hc;cases q
    ·simp
    ·simp only[IU,Ja,Ie,Im,GX];rcases hc with((h|h)|h)|h
     ·exact .inl (.inl (.inl (by omega)))
     ·exact .inl (.inl (.inr (by omega)))
     ·exact .inl (.inr (by omega))
     ·exact .inr ⟨h.1,by omega⟩
   ·rename_i hc;have e1:decide (0<=k)=true:=by rw[G0];omega
    have e2:decide (k<3)=true:=by rw[G0];omega
    have e3:decide (n<=8)=true:=by rw[G0];omega
    have e4:(k== 2||n== 0)=true:=by
     rw[HQ,Hy,Hy];omega
    rw[e1,e2,e3,e4];simp
  rw[hR];simp[S116,h0,hl2]
def t47(t:Ty)(ht:t.Lim):ai pg 47 [t.av]=M.pure (.bool (aX t)):=by
 rw[C47];have:ai pg 116 [t.av,.int .i64 4]=M.pure (.bool (cp 4 t)):=t116 4 (by omega) t ht;simp[S47,this]
def t73(t:Ty)(ht:t.Lim):ai pg 73 [t.av]=M.pure (.bool (aX t)):=by
 rw[C73];simp[S73,t47 t ht]
theorem lA:(l:List bN)->eO (dk l)=some (l.map fun f=>(f.1,f.2.kind,dk f.2.fields))
 |[]=>rfl
 |f:: l=>by simp[dk,eO,lA l,fM,q5,aB]
theorem oM{α β:Type}(g:α->β)(p:β->Bool):(l:List α)->bz p (l.map g)=(bz (fun x=>p (g x)) l).map g
 |[]=>rfl
 |x:: l=>by
  simp only[Hs,bz,oM g p l];cases bz (fun x=>p (g x)) l with
  |some y=>rfl
  |none=>cases p (g x)<;>rfl
def ty0:Ty:=.mk 0 []
def t181(l:List bN)(hl:l.length<=1000000000)(s:bn):ai pg 181 [aB l,.str s]=M.pure (.tup [((bz (fun f=>f.1== s) l).map (·.2)).getD ty0 |>.av,.bool (bz (fun f=>f.1== s) l).isSome]):=by
 rw[eb hOther (E:=iL) rfl];unfold iL aB;simp only[lA,HS,hl,HF,GP,tb,oM];cases bz (fun f:bN=>f.1== s) l with
 |none=>rfl
 |some f=>simp[af,M.pure,Ty.av,Ty.cells_eq,aB];rfl
def Ty.Short:Nat->Ty->Prop
 |0,_=>True
 |n+1,t=>t.fields.length<=1000000000/\∀f∈t.fields,Ty.Short n f.2
theorem fF:∀(d:Nat)(t:Ty),cp d t=true->∀n,Ty.Short n t
 |0,t,h,_=>by cases h
 |d+1,t,h,0=>trivial
 |d+1,t,h,n+1=>by
  rw[cU]at h;simp only[GO,G0,GT]at h;exact⟨by omega,fun f hf=>fF d f.2 (h.2.1 f hf).2 n⟩
theorem fG{α:Type}{p:α->Bool}:{l:List α} ->{x:α} ->bz p l=some x->x∈l/\p x=true
 |[],x,h=>by cases h
 | y:: l,x,h=>by
  simp only[bz]at h;cases h2:bz p l with
  |some z=>
   rw[h2]at h;cases h
   have:=fG h2
   exact⟨HE _ this.1,this.2⟩
  |none=>
   rw[h2]at h;cases h3:p y with
   |true=>rw[h3]at h;cases h;exact⟨HG,h3⟩
   |false=>rw[h3]at h;cases h
def lG{α:Type}(P:α->Bool)(l:List α):(!l.any fun x=>!P x)=l.all P:=by simp[JD]
theorem t125:∀(n:Nat)(b a:Ty),Ty.Short n a->Ty.Short n b->cp n b=true->ai pg 125 [a.av,b.av]=M.pure (.bool (bu a b))
 |0,b,a,_,_,h=>by cases h
 | n+1,b,a,ha,hb,h=>by
  have ih:=t125 n;rw[cU]at h;simp only[GO,G0,GT]at h;have hf:∀f∈b.fields,bJ (ai pg) (.fn (.func 186) [] [.ip (ab a.av)]) [a7 f]=M.pure (.bool (!(match bz (fun z=>z.1== f.1) a.fields with|some z=>bu z.2 f.2|none=>false))):=by
   intro f hfm;show ai pg 186 [a7 f,.ip (ab a.av)]=_;have h1:=t181 a.fields ha.1 f.1;rw[C186];cases hl:bz (fun z:bN=>z.1== f.1) a.fields with
   |none=>
    rw[hl]at h1;simp[S186,h1,cl,c5]
   |some z=>
    rw[hl]at h1;have h2:=ih f.2 z.2 (ha.2 z (fG hl).1) (hb.2 f hfm) (h.2.1 f hfm).2;simp[S186,h1,cl,c5,h2]
  have h2:=t131 (.fn (.func 186) [] [.ip (ab a.av)]) _ b.fields (by have:=hb.1;omega) (fun g=>by simp[cl,c5]) hf;rw[C125,oi];simp at h2;simp[S125,h2];rw[lG];rfl
def t56(a b:Ty)(ha:a.Lim)(hb:b.Lim):ai pg 56 [a.av,b.av]=M.pure (.bool (qj a b)):=by
 rw[C56];unfold qj;have h1:=t73 a ha;have h2:=t73 b hb;cases r1:aX a with
 |false=>
  rw[r1]at h1;simp[S56,h1]
 | true=>
  cases r2:aX b with
  |false=>
   rw[r1]at h1;rw[r2]at h2;simp[S56,h1,h2]
  |true=>
   rw[r1]at h1;rw[r2]at h2;have h3:=t125 4 b a (fF 4 a r1 4) (fF 4 b r2 4) r2;simp[S56,h1,h2,h3]
def t111(f:AV)(F:Ty->Ty->Bool)(a b:List Ty)(hb:a.length<=4611686018427387904)(hc:∀g,cl g f=f)(hf:∀x∈a,∀y∈b,bJ (ai pg) f [x.av,y.av]=M.pure (.bool (F x y))):ai pg 111 [dS a,dS b,f]=M.pure (.bool (fA F a b)):=by
 rw[C111];by_cases h:a.length=b.length
 ·have hloop:=pM (FL111_0 (ai pg)) (fun k=>[dS b,f,dS a,.int .i64 a.length,.int .i64 (k:Int)]) a.length (fun k=>F a[k]! b[k]!)
   (by simp[L111_0]) (fun k hk=>by
    have h1:(k:Int)<(a.length:Int):=by omega
    have h1b:(k:Int)<(b.length:Int):=by omega
    have hixa:=lV (l:=a) (n:=(k:Int)) (by omega) h1;have hixb:=lV (l:=b) (n:=(k:Int)) (by omega) h1b;rw[GZ]at hixa hixb;have hma:a[k]! ∈a:=by rw[Hd a k hk];exact GY hk
    have hmb:b[k]! ∈b:=by rw[Hd b k (by omega)];exact GY (by omega)
    have h3:=hf _ hma _ hmb;have hw:IntKind.i64.wrap ((k:Int)+1)=(k:Int)+1:=by rw[aS (by omega)];simp
    generalize a[k]! = x at hixa h3 |-;generalize b[k]! = y at hixb h3 |-;simp[L111_0,hk,hixa,hixb,h3,hw];cases F x y<;>simp) 0 (Hi _)
  rw[I1,mh F a b h]at hloop;simp[S111,h,hc]at hloop |-;simp[hloop]
 ·have h2:=ln F a b h;have h3:(a.length != b.length)=true:=by simp[h]
  simp[S111,h3,hc,h2]
@[simp] theorem mn(t:Nat)(a b:Int):am T .andNot t (.int .i64 a) (.int .i64 b)=some (.int .i64 (ca a b)):=rfl
def t44(a b:Sig)(ha:a.Lim)(hb:b.Lim):ai pg 44 [a.av,b.av]=M.pure (.bool (tI a b)):=by
 rw[C44];have h1:=t111 (.fn (.func 56) [] []) qj b.params a.params (by have:=hb.plen;omega) (fun g=>rfl) (fun x hx y hy=>t56 x y (hb.ptys x hx) (ha.ptys y hy));have h2:=t56 a.result b.result ha.result hb.result;unfold tI;cases r1:fA qj b.params a.params with
 |false=>
  rw[r1]at h1;simp[S44,h1]
 | true=>
  cases r2:qj a.result b.result with
  |false=>
   rw[r1]at h1;rw[r2]at h2;simp[S44,h1,h2]
  |true=>
   rw[r1]at h1;rw[r2]at h2;simp[S44,h1,h2]
def t149(t:Ty)(ht:t.Lim):ai pg 149 [t.av]=M.pure (.bool (!(aX t))):=by
 rw[C149];simp[S149,t47 t ht]
def t77(s:Sig)(hs:s.Lim):ai pg 77 [s.av]=M.pure (.bool (dR s)):=by
 rw[C77];have h1:=t76 s.name;have h2:=t47 s.result hs.result;have h3:=t148 (.fn (.func 149) [] []) (fun t=>!(aX t)) s.params (by have:=hs.plen;omega) (fun g=>rfl) (fun x hx=>t149 x (hs.ptys x hx));unfold dR;rw[<- lG aX s.params];generalize (s.params.any fun x=>!aX x)=q at h3 |-;by_cases g1:bE s.name=true
 ·rw [g1]at h1;by_cases g2:s.params.length<=6
  ·have g2':¬(6<(s.params.length:Int)):=by omega
   have g2n:¬(6<s.params.length):=by omega
   by_cases g3:ca s.effects 15=0
   ·by_cases g4:aX s.result=true
    ·rw[g4]at h2;simp[S77,h1,h2,h3,g1,g2,g2',g2n,g3,g4]
    ·rw[Is]at g4;rw[g4]at h2;simp[S77,h1,h2,h3,g1,g2,g2',g2n,g3,g4]
   ·have g3':(ca s.effects 15== 0)=false:=GX.2 g3;simp[S77,h1,h2,h3,g1,g2,g2',g2n,g3,g3']
  ·have g2':6<(s.params.length:Int):=by omega
   have g2n:6<s.params.length:=by omega
   simp[S77,h1,h2,h3,g1,g2,g2',g2n]
 ·rw[Is]at g1;rw[g1]at h1;simp[S77,h1,h2,h3,g1]
theorem t27(f:Face)(hf:f.Lim):ai pg 27 [f.av]=M.pure (.bool (bL f)):=by
 have hlen:=hf.len;have hloop:=pM (FL27_0 (ai pg)) (fun k=>[.ip (ab f.av),sigs f.funcs,.int .i64 f.funcs.length,.int .i64 (k:Int)]) f.funcs.length
  (fun k=>dR f.funcs[k]! && (decide (k=0)||aU (f.funcs[k-1]!).name (f.funcs[k]!).name))
  (by simp[L27_0]) (fun k hk=>by
   have h1:(k:Int)<(f.funcs.length:Int):=by omega
   have hix:=qw (l:=f.funcs) (n:=(k:Int)) (by omega) h1;rw[GZ]at hix;have hm:f.funcs[k]! ∈f.funcs:=by rw[Hd f.funcs k hk];exact GY hk
   have h2:=t77 _ (hf.sigs _ hm);have hw:IntKind.i64.wrap ((k:Int)+1)=(k:Int)+1:=by rw[aS (by omega)];simp
   generalize f.funcs[k]! = x at hix h2 hm |-;rcases HD k with hk0|hk0
   ·subst hk0;have hix0:ak T 22 (sigs f.funcs) (.int .i64 0)=some (.ip (ab x.av)):=hix;have hw0:IntKind.i64.wrap 1=1:=rfl;simp[L27_0,hix0,h2,hw0,hk];cases dR x<;>simp
   ·have hp:IntKind.i64.wrap ((k:Int)-1)=((k-1:Nat):Int):=by
     rw[ff (by omega) (by omega)];omega
    have h4:((k-1:Nat):Int)<(f.funcs.length:Int):=by omega
    have hix2:=qw (l:=f.funcs) (n:=((k-1:Nat):Int)) (by omega) h4;rw[GZ]at hix2;generalize f.funcs[k-1]! = g at hix2 |-;have hk1:¬k=0:=by omega
    simp[L27_0,h1,hix,h2,hw,hp,hix2,hk0,hk1,hk];cases dR x<;>cases aU g.name x.name<;>simp) 0 (Hi _)
 have hall:((List.range' 0 f.funcs.length).all fun k=>dR f.funcs[k]! && (decide (k=0)||aU (f.funcs[k-1]!).name (f.funcs[k]!).name))=(f.funcs.all dR&&f5 (fun a b=>aU a.name b.name) f.funcs):=
  pt dR (fun a b=>aU a.name b.name) f.funcs
 rw[I1,hall]at hloop;have hl2:aj (L27_0 (ai pg) aj) [.ip [.str f.module,sigs f.funcs],sigs f.funcs,.int .i64 f.funcs.length,.int .i64 0]=M.pure (.bool (f.funcs.all dR&&f5 (fun a b=>aU a.name b.name) f.funcs)):=by
  simpa using hloop
 rw[C27];have h1:=t76 f.module;unfold bL;by_cases g1:bE f.module=true
 ·rw[g1]at h1;by_cases g2:f.funcs.length<=30
  ·have g2':¬(30<(f.funcs.length:Int)):=by omega
   have g2n:¬(30<f.funcs.length):=by omega
   simp[S27,h1,g1,g2,g2',g2n,hl2]
  ·have g2':30<(f.funcs.length:Int):=by omega
   have g2n:30<f.funcs.length:=by omega
   simp[S27,h1,g1,g2,g2',g2n]
 ·rw[Is]at g1;rw[g1]at h1;simp[S27,h1,g1]
def aE{α β:Type}{m:M α}{a:α}{h h':Hp}(e:m h= .ok a h')(f:α->M β):ae m f h=f a h':=by simp only[ae,e]
def AY(x:bN):(ab (a7 x)).length=3:=by simp
def DY(x:Ty):(ab x.av).length=2:=by simp
def im(l:List bN):aB l= .sl (l.map a7):=by rw[aB,cE]
def t104(t:Ty)(h:aX t=true):ai pg 104 [t.av]=M.pure t.av:=by
 have e0:ai pg 104 [t.av]=iJ (ai pg) [t.av]:=eb hOther rfl _;rw[e0];simp only[iJ,yP 5 t (yd 4 t (oQ 4 t h)),GP];rfl
theorem gE{α:Type}(F:α->Bool):(l:List α)->(i:Int)->(l.find? F=none/\bY F l i= -1)\/∃(k:Nat)(x:α),l.find? F=some x/\l[k]? = some x/\bY F l i=i+k
 |[],i=>.inl ⟨rfl,rfl⟩
 | x:: l,i=>by
  cases h:F x with
  |true=>exact .inr ⟨0,x,by simp[h],rfl,by simp[bY,h]⟩
  |false=>
   rcases gE F l (i+1)with⟨h1,h2⟩|⟨k,y,h1,h2,h3⟩
   ·exact .inl ⟨by simp[h,h1],by simp[bY,h,h2]⟩
   ·exact .inr ⟨k+1,y,by simp[h,h1],by simpa using h2,by simp[bY,h,h3];omega⟩
theorem FU{q n i:Nat}(h:i<n):ak T 54 (.hs q 0 n 2 true) (.int .i64 (i:Int))=some (.hp q (0+i*2)):=by
 have e:ak T 54 (.hs q 0 n 2 true) (.int .i64 (i:Int))=if 0<=(i:Int)/\(i:Int)<(n:Int)then some (.hp q (0+(i:Int).toNat*2))else none:=rfl;rw[e,GR (by omega),GZ]
def zN{q:Nat}{l:List Ty}{i:Nat}{h:Hp}(hi:i<l.length)(hq:h[q]? = some (rowOf Ty.av l)):bi T 27 (.hp q (0+i*2)) h= .ok l[i].av h:=by
 have hlen:=eV (f:=Ty.av) DY l;rw[oP (T:=T) (t:=27) rfl rfl hq (show 0+i*2+2<=_ by omega)];show R.ok (AV.agg (((rowOf Ty.av l).drop (0+i*2)).take 2)) h=_;rw[G5,ef DY l i hi,bw,cb]
def vR{q:Nat}{l:List Ty}{i:Nat}{h:Hp}(hi:i<l.length)(hq:h[q]? = some (rowOf Ty.av l)):bI T 27 (.hp q (0+i*2)) l[i].av h= .ok (.tup []) h:=by
 have hlen:=eV (f:=Ty.av) DY l;refine lQ (T:=T) (t:=27) rfl hq (Ap.gI _) (show 0+i*2+2<=_ by omega) (by decide) ?_;rw[bw];show ((rowOf Ty.av l).drop (0+i*2)).take 2=_;rw[G5,ef DY l i hi,bw]
def Cp(l:List Ty)(hb:l.length<=4611686018427387904)(hk:∀t∈l,ai pg 104 [t.av]=M.pure t.av)(q:Nat)(h:Hp)(hq:h[q]? = some (rowOf Ty.av l))(x3 x4 x5 x6 x7:AV)(nm:bn)(k e:Int)(fs:List bN):∀(n i:Nat),l.length-i=n->i<=l.length->
  aj (L37_0 (ai pg) aj) [.hs q 0 l.length 2 true,.int .i64 l.length,.int .i64 i,x3,x4,x5,x6,x7,.str nm,.hs q 0 l.length 2 true,.int .i64 k,aB fs,.int .i64 e] h= .ok (.tup [.agg [.str nm,.hs q 0 l.length 2 true,.int .i64 k,aB fs,.int .i64 e],.bool true]) h:=by
 intro n
 induction n with
 |zero=>
  intro i hn hi;rw[FL37_0];have h1:¬((i:Int)<(l.length:Int)):=by omega
  have h2:ao 5 [] (.agg [.str nm,.hs q 0 l.length 2 true,.int .i64 k,aB fs,.int .i64 e])=M.pure (.agg [.str nm,.hs q 0 l.length 2 true,.int .i64 k,aB fs,.int .i64 e]):=aM rfl;simp[L37_0,h1,h2,M.pure]
 |succ n ih=>
  intro i hn hi;have hlt:i<l.length:=by omega
  have h1:(i:Int)<(l.length:Int):=by omega
  have ih':=ih (i+1) (by omega) (by omega);have hw:IntKind.i64.wrap ((i:Int)+1)=((i+1:Nat):Int):=aS (by omega);have hc:=hk l[i] (GY hlt);rw[<- ih'];generalize hcode:aj (L37_0 (ai pg) aj) [.hs q 0 l.length 2 true,.int .i64 l.length,.int .i64 i,x3,x4,x5,x6,x7,.str nm,.hs q 0 l.length 2 true,.int .i64 k,aB fs,.int .i64 e] h=code;rw[FL37_0]at hcode;simp -implicitDefEqProofs only[L37_0,aZ,be,bF,aF,aR,h1,HF,Hn,FU hlt]at hcode;rw[aE (zN hlt hq)]at hcode;simp -implicitDefEqProofs only[Av.dG,aK,bw,aF,LD27,G4,G8,G5,Nat.reduceAdd,GQ,Hn,He,Hq,cb,hc,dB]at hcode;rw[show (i*2)=0+i*2 by omega]at hcode;rw[aE (vR hlt hq)]at hcode;simp -implicitDefEqProofs only[dF,aF,hw]at hcode;rw[<- hcode]
def rU:Sig:=⟨[],[],ty0,0⟩
def t102(s:Sig)(name:bn):ai pg 102 [s.av,.ip [.str name]]=M.pure (.bool (s.name== name)):=by
 rw[C102];simp[S102,cl,c5]
theorem t37(f:Face)(hf:f.Lim)(hr:bL f=true)(name:bn):ai pg 37 [f.av,.str name]=M.pure (match oE f name with
  |some s=>.tup [s.av,.bool true]
  |none=>.tup [rU.av,.bool false]):=by
 have hlen:=hf.len;have h1:=t101 (.fn (.func 102) [] [.ip [.str name]]) (fun s=>s.name== name) f.funcs (by omega) (fun g=>rfl) (fun x _=>t102 x name);unfold bL at hr;simp only[GO,GT]at hr;rw[C37];unfold oE;rcases gE (fun s:Sig=>s.name== name) f.funcs 0 with⟨h2,h3⟩|⟨k,s,h2,h3,h4⟩
 ·rw[h3]at h1;rw[h2];have e1:aN T false 56 []=some rU.av:=rfl;simp[S37,cl,h1,e1];exact bH fun g=>by simp[cl,c5]
 ·have hm:s∈f.funcs:=HW h3;have hrs:=hr.2.1 s hm;unfold dR at hrs;simp only[GO,G0,GT]at hrs;obtain⟨⟨⟨⟨_,hpl⟩,_⟩,hrr⟩,hps⟩:=hrs;have hk:k<f.funcs.length:=(Hc.1 h3).1;rw[Int.zero_add]at h4;rw[h4]at h1;rw[h2];have hix:=qw (l:=f.funcs) (n:=(k:Int)) (by omega) (by omega);rw[GZ,Ic,h3]at hix;have hix':ak T 22 (sigs f.funcs) (.int .i64 (k:Int))=some (.ip (ab s.av)):=hix;have hneg:¬((k:Int)<0):=by omega
  have hcl:=fun t (ht:t∈s.params)=>t104 t (hps t ht);have hcr:=t104 s.result hrr;have e0:ai pg 103 [dS s.params]=cW T 54 (ai pg) [dS s.params]:=eb hOther rfl _;have e1:=my (T:=T) (t:=54) (f:=Ty.av) (sz:=2) rfl rfl rfl rfl rfl (by decide) (by decide) (fun x=>Ap.gI x) (ai pg) s.params (show s.params.length*32<=140737488355328 by omega) [];rw[show AV.sl (s.params.map Ty.av)=dS s.params from rfl,<- e0]at e1;funext hp;show aH _ hp=R.ok (.tup [s.av,.bool true]) hp;by_cases hps0:s.params=[]
  ·rw[GR hps0]at e1;have e2:ao 5 [] (.agg [.str s.name,.sl [],.int .i64 s.result.kind,aB s.result.fields,.int .i64 s.effects])=M.pure (.agg [.str s.name,.sl [],.int .i64 s.result.kind,aB s.result.fields,.int .i64 s.effects]):=aM rfl;have key:S37 (ai pg) aj (cl az f.av) (cl az (.str name)) []= .ok (.tup [.agg [.str s.name,.sl [],.int .i64 s.result.kind,aB s.result.fields,.int .i64 s.effects],.bool true]) []:=by
    simp only[S37,gA,mu,cz,FA24_1,aF,HK,Hk,LD22,eI,h1,aK,bF,hneg,IB,aR,HL,Hl,hix',LD56,cV,G4,G8,G5,Nat.reduceAdd,GQ,Hn,He,Hq,fN,gz,aZ,be];rw[aE e1];simp only[cb,hcr,dB,aK,bK,bc,GP,aF,hM,bw,Al,aZ,be];rw[FL37_0];simp[L37_0,e2,M.pure]
   unfold aH;rw[key];have:(AV.agg [.str s.name,.sl [],.int .i64 s.result.kind,aB s.result.fields,.int .i64 s.effects])=s.av:=by rw[<- fN,hps0];rfl
   rw[this];have hc:Ap.Clean (AV.tup [s.av,.bool true]):=fun g=>by simp[cl,c5]
   exact GW (fun x=>R.ok x hp) (hc.frz 6 [])
  ·rw[if_neg hps0]at e1;have hq:([]++[rowOf Ty.av s.params]:Hp)[0]? = some (rowOf Ty.av s.params):=rfl;have key:S37 (ai pg) aj (cl az f.av) (cl az (.str name)) []= .ok (.tup [.agg [.str s.name,.hs 0 0 s.params.length 2 true,.int .i64 s.result.kind,aB s.result.fields,.int .i64 s.effects],.bool true]) ([]++[rowOf Ty.av s.params]):=by
    simp only[S37,gA,mu,cz,FA24_1,aF,HK,Hk,LD22,eI,h1,aK,bF,hneg,IB,aR,HL,Hl,hix',LD56,cV,G4,G8,G5,Nat.reduceAdd,GQ,Hn,He,Hq,fN,gz,aZ,be];rw[aE e1];simp only[cb,hcr,dB,aK,bK,bc,GP,aF,hM,bw,Bj,aZ,be,G8];exact Cp s.params (by omega) hcl 0 _ hq _ _ _ _ _ _ _ _ _ s.params.length 0 rfl (by omega)
   unfold aH;rw[key];have hfr:=kI (f:=Ty.av) DY (fun x=>by rw[bw,cb]) (fun x g=>lr g x) (by decide) hq 5;have:fU 6 ([]++[rowOf Ty.av s.params]) (.tup [.agg [.str s.name,.hs 0 0 s.params.length 2 true,.int .i64 s.result.kind,aB s.result.fields,.int .i64 s.effects],.bool true])= .tup [s.av,.bool true]:=by
    rw[<- fN];show AV.tup [.agg [.str s.name,fU 6 ([]++[rowOf Ty.av s.params]) (.hs 0 0 s.params.length 2 true),.int .i64 s.result.kind,cl _ (aB s.result.fields),.int .i64 s.effects],.bool true]=_;rw[hfr,pB];rfl
   show R.ok (fU 6 _ _) hp=_;rw[this]
def t64(a b:Face)(ha:a.Lim)(hb:b.Lim):ai pg 64 [a.av,b.av]=M.pure (.bool (fQ a b)):=by
 rw[C64];have h1:=t27 a ha;have h2:=t27 b hb;unfold fQ;by_cases g1:a.module=b.module
 ·have g1':(a.module== b.module)=true:=Hy.2 g1;by_cases g2:bL a=true
  ·rw[g2]at h1;simp only[S64,gA,cz,FA24_0,Hk,LD9,aF,iT,g1',dI,LD24,G4,G8,G5,Nat.reduceAdd,GQ,Hn,He,Hq,gg,h1,h2,g2,aK,aZ,fT,eQ,HM,IU]
  ·rw[Is]at g2;rw[g2]at h1;simp only[S64,gA,cz,FA24_0,Hk,LD9,aF,iT,g1',dI,vr,List.replicate,LD24,G4,G8,G5,Nat.reduceAdd,GQ,Hn,He,Hq,gg,h1,g2,aK,aZ,fT,lK,eQ,HM,I3,Jf]
 ·have g1':(a.module== b.module)=false:=GX.2 g1;simp[S64,g1,g1']
theorem Cq(old now:Face)(ho:old.Lim)(hn:now.Lim)(hr:bL now=true)(x4 x5 x6 x7 x8:AV):∀(n i:Nat),old.funcs.length-i=n->i<=old.funcs.length->
  aj (L65_0 (ai pg) aj) [.ip (ab now.av),sigs old.funcs,.int .i64 old.funcs.length,.int .i64 i,x4,x5,x6,x7,x8]=M.pure (match (old.funcs.drop i).find? (fun f=>!(kL now f))with
   |some s=>.tup [s.av,.bool true]
   |none=>.tup [rU.av,.bool false]):=by
 have hlen:=ho.len;intro n
 induction n with
 |zero=>
  intro i hni hi;rw[FL65_0];have h1:¬((i:Int)<(old.funcs.length:Int)):=by omega
  have h2:old.funcs.drop i=[]:=G6 (by omega);have e1:aN T false 56 []=some rU.av:=rfl;simp[L65_0,h1,h2,e1]
 | succ n ih=>
  intro i hni hi;have hlt:i<old.funcs.length:=by omega
  have h1:(i:Int)<(old.funcs.length:Int):=by omega
  have h2:old.funcs.drop i=old.funcs[i]:: old.funcs.drop (i+1):=G2 hlt;have ih':=ih (i+1) (by omega) (by omega);have hw:IntKind.i64.wrap ((i:Int)+1)=((i+1:Nat):Int):=aS (by omega);have hix:=qw (l:=old.funcs) (n:=(i:Int)) (by omega) h1;rw[GZ,Hd old.funcs i hlt]at hix;have hfl:=ho.sigs _ (GY hlt);generalize old.funcs[i]=f at hix h2 hfl;have h3:=t37 now hn hr f.name;have hkb:kL now f=(match oE now f.name with|some g=>tI g f|none=>false):=rfl;rw[h2,FL65_0];simp only[L65_0,aZ,be,bF,aF,h1,HF,aR,Hn,hix,cV,LD56,G4,G8,G5,Nat.reduceAdd,GQ,He,Hq,fN,jf,aK,cz,LD24,gg,FA56_0,Hk,LD9,h3];cases hfs:oE now f.name with
  |none=>
   rw[hfs]at hkb;simp[hkb]
  | some g=>
   rw[hfs]at hkb;simp only at hkb;have hgl:g.Lim:=hn.sigs g (HH hfs);have h4:=t44 g f hgl hfl;cases hs:tI g f with
   |true=>
    rw[hs]at h4 hkb;simp[hkb,h4,hw];simpa using ih'
   |false=>
    rw[hs]at h4 hkb;simp[hkb,h4]
theorem t65(old now:Face)(ho:old.Lim)(hn:now.Lim)(hr:bL now=true):ai pg 65 [old.av,now.av]=M.pure (match gU old now with
   |some s=>.tup [s.av,.bool true]
   |none=>.tup [rU.av,.bool false]):=by
 rw[C65];have h:=Cq old now ho hn hr (.str []) (.sl []) (.int .i64 0) (.sl []) (.int .i64 0) old.funcs.length 0 rfl (by omega);rw[Hk]at h;unfold gU;simp[S65,sigs]at h|-;rw[h];cases List.find? (fun f=>!kL now f) old.funcs with
 |none=>exact bH fun g=>by simp[cl,c5]
 |some s=>exact bH fun g=>by simp[cl,c5]
def t17(a b:Face)(ha:a.Lim)(hb:b.Lim):ai pg 17 [a.av,b.av]=M.pure (.tup [.int .i64 (jH a b).1,.str (jH a b).2]):=by
 rw[C17];have h1:=t64 a b ha hb;have hc:∀(k:Int)(s:bn),aH (M.pure (.tup [.int .i64 k,.str s]))=M.pure (.tup [.int .i64 k,.str s]):=fun k s=>bH fun g=>rfl;unfold jH;cases hm:fQ a b with
 |false=>
  rw[hm]at h1;simp[S17,h1,hc]
 | true=>
  rw[hm]at h1;unfold fQ at hm;simp only[GO]at hm;have h2:=t65 a b ha hb hm.2;have h3:=t65 b a hb ha hm.1.2;cases hl:gU a b with
  |some s=>
   rw[hl]at h2;simp[S17,h1,h2,hc]
  | none=>
   rw[hl]at h2;cases hl2:gU b a with
   |some s=>
    rw[hl2]at h3;simp[S17,h1,h2,h3,hc]
   |none=>
    rw[hl2]at h3;simp[S17,h1,h2,h3,hc]
def sY{F:(List AV->M AV)->List AV->M AV}(hF:∀vs,aj F vs=F (aj F) vs)(st:Nat->List AV)(n:Nat)(hend:∃b,F (aj F) (st n)=M.pure (.bool b))(hstep:∀k,k<n->(∃b,F (aj F) (st k)=M.pure (.bool b))\/F (aj F) (st k)=aj F (st (k+1))):
  ∀k,k<=n->∃b,aj F (st k)=M.pure (.bool b):=by
 have key:∀r k,n-k=r->k<=n->∃b,aj F (st k)=M.pure (.bool b):=by
  intro r
  induction r with
  |zero=>
   intro k hr hk;obtain rfl:k=n:=by omega
   rw[hF];exact hend
  | succ r ih=>
   intro k hr hk;rw[hF];rcases hstep k (by omega)with h|h
   ·exact h
   ·rw[h];exact ih (k+1) (by omega) (by omega)
 exact fun k hk=>key (n-k) k rfl hk
def o9{t:Ty}{f:bN}(h:f∈t.fields):SizeOf.sizeOf f.2<SizeOf.sizeOf t:=by
 cases t with
 |mk k fs=>
  have h1:=List.sizeOf_lt_of_mem (show f∈fs from h);obtain⟨a,b⟩:=f;show SizeOf.sizeOf b<_;simp at h1 |-;omega
def FO:∀(n:Nat)(t:Ty),SizeOf.sizeOf t<=n->t.Lim->∀most:Int,0<=most->most<=1000->∃r:Int,ai pg 62 [t.av,.int .i64 most]=M.pure (.int .i64 r)/\1<=r/\r<=most+1:=by
 intro n
 induction n with
 |zero=>
  intro t h;cases t;simp at h
 | succ n ih=>
  intro t hs ht most h0 h1;have hlen:=ht.len;have hl:∀(k i:Nat),t.fields.length-i=k->i<=t.fields.length->∀m:Int,1<=m->m<=most+1->∃r:Int,aj (L62_0 (ai pg) aj) [.int .i64 most,.ip (ab t.av),.int .i64 m,.int .i64 i]=M.pure (.int .i64 r)/\1<=r/\r<=most+1:=by
   intro k
   induction k with
   |zero=>
    intro i hk hi m hm1 hm2;rw[FL62_0];have h1:¬((i:Int)<(t.fields.length:Int)):=by omega
    exact⟨m,by simp[L62_0,h1],hm1,hm2⟩
   | succ k ihk=>
    intro i hk hi m hm1 hm2;rw[FL62_0];have hlt:i<t.fields.length:=by omega
    have h1':(i:Int)<(t.fields.length:Int):=by omega
    by_cases hm:m<=most
    ·have hix:=lU (l:=t.fields) (n:=(i:Int)) (by omega) h1';rw[GZ,Hd t.fields i hlt]at hix;have hm':=GY hlt;generalize t.fields[i]=f at hix hm';have hsz:=o9 hm';obtain⟨r,e1,e2,e3⟩:=ih f.2 (by omega) (ht.kid hm') (most-m) (by omega) (by omega);obtain⟨r2,g1,g2,g3⟩:=ihk (i+1) (by omega) (by omega) (m+r) (by omega) (by omega);have w1:IntKind.i64.wrap (most-m)=most-m:=ff (by omega) (by omega);have w2:IntKind.i64.wrap (m+r)=m+r:=ff (by omega) (by omega);have w3:IntKind.i64.wrap ((i:Int)+1)=((i+1:Nat):Int):=aS (by omega);refine⟨r2,?_,g2,g3⟩;rw[<- g1];simp only[L62_0,aZ,be,bw,FA27_1,aF,HK,Hk,LD25,vW,bF,lZ,h1',hm,HF,dI,aK,fT,aR,Hn,hix,cg,FA76_1,LD27,G4,G8,G5,Nat.reduceAdd,GQ,He,Hq,cb,tO,w1,e1,dF,w2,w3]
    ·exact⟨m,by simp[L62_0,h1',hm],hm1,hm2⟩
  obtain⟨r,e1,e2,e3⟩:=hl t.fields.length 0 rfl (by omega) 1 (by omega) (by omega);refine⟨r,?_,e2,e3⟩;rw[C62];have e1':aj (L62_0 (ai pg) aj) [.int .i64 most,.ip (ab t.av),.int .i64 1,.int .i64 0]=M.pure (.int .i64 r):=e1;simp only[S62,lr,xu,e1',rq]
def FP:∀(n:Nat)(t:Ty),SizeOf.sizeOf t<=n->t.Lim->∃b,ai pg 63 [t.av]=M.pure (.bool b):=by
 intro n
 induction n with
 |zero=>
  intro t h;cases t;simp at h
 | succ n ih=>
  intro t hs ht;have hlen:=ht.len;obtain⟨b,hb⟩:=sY (FL63_0 (ai pg)) (fun k=>[.ip (ab t.av),.int .i64 (k:Int)]) t.fields.length ⟨true,by simp[L63_0]⟩ (fun k hk=>by
   have h1:(k:Int)<(t.fields.length:Int):=by omega
   have hix:=lU (l:=t.fields) (n:=(k:Int)) (by omega) h1;rw[GZ,Hd t.fields k hk]at hix;have hm':=GY hk;generalize t.fields[k]=f at hix hm';have hsz:=o9 hm';have w3:IntKind.i64.wrap ((k:Int)+1)=(k:Int)+1:=by rw[aS (by omega)];simp
   obtain⟨b,hb⟩:=ih f.2 (by omega) (ht.kid hm');by_cases hn:30<(f.1.length:Int)
   ·refine .inl ⟨false,?_⟩;have hn':30<f.1.length:=by omega
    simp[L63_0,h1,hk,hix,hn,hn']
   ·have hn':¬30<f.1.length:=by omega
    cases b with
    |false=>exact .inl ⟨false,by simp[L63_0,h1,hk,hix,hn,hn',hb]⟩
    |true=>exact .inr (by simp[L63_0,h1,hk,hix,hn,hn',hb,w3])) 0 (Hi _)
  refine⟨b,?_⟩;rw[C63];have hb':aj (L63_0 (ai pg) aj) [.ip (ab t.av),.int .i64 0]=M.pure (.bool b):=hb;simp only[S63,lr,hb',eQ]
def FN(t:Ty)(ht:t.Lim):∃b,ai pg 16 [t.av]=M.pure (.bool b):=by
 obtain⟨r,e1,e2,e3⟩:=FO _ t (GQ _) ht 40 (by omega) (by omega);obtain⟨b,hb⟩:=FP _ t (GQ _) ht;rw[C16];by_cases h:r<=40
 ·exact⟨b,by simp[S16,e1,hb,h]⟩
 ·exact⟨false,by simp[S16,e1,h]⟩
def Ee(l:List Ty)(hl:l.length<=4611686018427387904)(ht:∀t∈l,t.Lim):∃b,ai pg 61 [dS l]=M.pure (.bool b):=by
 obtain⟨b,hb⟩:=sY (FL61_0 (ai pg)) (fun k=>[dS l,.int .i64 (k:Int)]) l.length ⟨true,by simp[L61_0]⟩ (fun k hk=>by
  have h1:(k:Int)<(l.length:Int):=by omega
  have hix:=lV (l:=l) (n:=(k:Int)) (by omega) h1;rw[GZ,Hd l k hk]at hix;have hm':=GY hk;generalize l[k]=t at hix hm';have w3:IntKind.i64.wrap ((k:Int)+1)=(k:Int)+1:=by rw[aS (by omega)];simp
  obtain⟨b,hb⟩:=FN t (ht t hm');cases b with
  |false=>exact .inl ⟨false,by simp[L61_0,h1,hk,hix,hb]⟩
  |true=>exact .inr (by simp[L61_0,h1,hk,hix,hb,w3])) 0 (Hi _)
 refine⟨b,?_⟩;rw[C61];have hb':aj (L61_0 (ai pg) aj) [dS l,.int .i64 0]=M.pure (.bool b):=hb;simp only[S61,sH,hb',eQ]
theorem zd(t:Ty):aJ T 54 1 [(0,t.av)]=some (dS [t]):=by
 have e:aJ T 54 1 [(0,t.av)]=(eu 2 [AV.agg [.int .i64 0,.sl []]] [(0,t.av)]).map .sl:=rfl;rw[e];simp[eu,dS]
def Ed(f:Face)(hf:f.Lim):∃b,ai pg 15 [f.av]=M.pure (.bool b):=by
 have hlen:=hf.len;have tail:∀(p q:Bool),∃b,(ae (ar (.bool p) true 1 (M.pure [.bool q])) fun v46=>ae (af (aG (.bool p) (nth v46 0) (.bool false))) fun v47=>M.pure v47:M AV)=M.pure (.bool b):=by
  intro p q;cases p<;>cases q<;>exact⟨_,rfl⟩
 obtain⟨b,hb⟩:=sY (FL15_0 (ai pg)) (fun k=>[.ip (ab f.av),.int .i64 (k:Int)]) f.funcs.length (by
  obtain⟨b,hb⟩:=tail (decide ((f.module.length:Int)<=30)) (decide ((f.funcs.length:Int)<=10));refine⟨b,?_⟩;rw[<- hb];simp[L15_0]) (fun k hk=>by
  have h1:(k:Int)<(f.funcs.length:Int):=by omega
  have hix:=qw (l:=f.funcs) (n:=(k:Int)) (by omega) h1;rw[GZ,Hd f.funcs k hk]at hix;have hm':=GY hk;generalize f.funcs[k]=s at hix hm';have hs:=hf.sigs s hm';have w3:IntKind.i64.wrap ((k:Int)+1)=(k:Int)+1:=by rw[aS (by omega)];simp
  obtain⟨b1,hb1⟩:=Ee s.params (by have:=hs.plen;omega) hs.ptys;obtain⟨b2,hb2⟩:=Ee [s.result] (by simp) (fun t ht=>by simp at ht;subst ht;exact hs.result);have hbs:aJ T 54 1 [(0,s.result.av)]=some (dS [s.result]):=zd _;obtain⟨b,hb⟩:=tail (decide ((f.module.length:Int)<=30)) (decide ((f.funcs.length:Int)<=10));by_cases h10:k<=10
  ·have h10':((k:Int)<=10):=by omega
   by_cases h30:30<s.name.length
   ·have h30':30<(s.name.length:Int):=by omega
    exact .inl ⟨false,by simp[L15_0,h1,hk,hix,h10,h10',h30,h30']⟩
   ·have h30':¬30<(s.name.length:Int):=by omega
    by_cases h8:8<s.params.length
    ·have h8':8<(s.params.length:Int):=by omega
     exact .inl ⟨false,by simp[L15_0,h1,hk,hix,h10,h10',h30,h30',h8,h8']⟩
    ·have h8':¬8<(s.params.length:Int):=by omega
     cases b1 with
     |false=>exact .inl ⟨false,by simp[L15_0,h1,hk,hix,h10,h10',h30,h30',h8,h8',hb1]⟩
     |true=>
      cases b2 with
      |false=>exact .inl ⟨false,by simp[L15_0,h1,hk,hix,h10,h10',h30,h30',h8,h8',hb1,hbs,hb2]⟩
      |true=>exact .inr (by simp[L15_0,h1,hk,hix,h10,h10',h30,h30',h8,h8',hb1,hbs,hb2,w3])
  ·have h10':¬((k:Int)<=10):=by omega
   refine .inl ⟨b,?_⟩;rw[<- hb];simp[L15_0,h1,hk,h10,h10']) 0 (Hi _)
 refine⟨b,?_⟩;rw[C15];have hb':aj (L15_0 (ai pg) aj) [.ip (ab f.av),.int .i64 0]=M.pure (.bool b):=hb;simp only[S15,gA,hb',eQ]
end Go.Proofs.YteemeakjlfnapaaGreatDoor
namespace Go.Proofs.YteemeakjlfnapaaGreatDoor
open Go Go.Av
set_option maxRecDepth 1000000
def tx:cK pg 80 14 [] []= .ok (.bool true) []:=by kernel_rfl
def eg:ai pg 14 []=M.pure (.bool true):=by
 funext h;have h1:=xk hOther tx (by simp);have e:∀h,ai pg 14 [] h=aH (bX (pg.cx (ai pg) Tryz.f14.ntmps wx) aj Tryz.f14 (pg.own 14) (c5 az [])) h:=fun h=>JJ (aA hOther rfl rfl rfl []) h;rw[e]at h1 |-;unfold aH at h1 |-;generalize bX (pg.cx (ai pg) Tryz.f14.ntmps wx) aj Tryz.f14 (pg.own 14) (c5 az []) []=r at h1 |-;cases r with
 |ok v h'=>
  simp only[R.ok.injEq]at h1;show R.ok (fU 6 h' v) h=_;rw[h1.1];rfl
 |pan v h'=>cases h1
 |fail=>cases h1
end Go.Proofs.YteemeakjlfnapaaGreatDoor
namespace Go.Proofs.YteemeakjlfnapaaGreatDoor
open Go Go.Av Go.Av.Ap
set_option maxRecDepth 100000
def dm(t:Ty):Prop:=∀n,Ty.Short n t
def dm.len{t:Ty}(h:dm t):t.fields.length<=1000000000:=(h 1).1
def dm.kid{t:Ty}(h:dm t){f:bN}(hf:f∈t.fields):dm f.2:=fun n=>(h (n+1)).2 f hf
def dZ{d:Nat}{t:Ty}(h:cp d t=true):dm t:=fF d t h
def qf{k:Int}{fs:List bN}(h:fs.length<=1000000000)(hf:∀f∈fs,dm f.2):dm (.mk k fs):=fun n=>by
 cases n with
 |zero=>exact trivial
 |succ n=>exact⟨h,fun f hm=>hf f hm n⟩
def tY{t:Ty}{f:bN}(h:f∈t.fields):SizeOf.sizeOf f.2<SizeOf.sizeOf t:=by
 cases t with
 |mk k fs=>
  have h1:=List.sizeOf_lt_of_mem (show f∈fs from h);obtain⟨n,t⟩:=f;simp only[Je,Ty.mk.sizeOf_spec]at h1 |-;have:SizeOf.sizeOf t<SizeOf.sizeOf ((n,t):bN):=by simp only[Je];omega
  simp only[Je]at this;omega
def lc(f:bN)(fs l:List bN):jw (f:: fs) l=(match CW f l with|some x=>[x]|none=>[])++jw fs l:=by
 simp only[jw];rfl
theorem tJ(f:bN)(l:List bN):CW f l=match bz (fun z=>z.1== f.1) l with
  |some z=>(match qu f.2 z.2 with|some u=>some (f.1,u)|none=>none)
  |none=>none:=by
 obtain⟨n,t⟩:=f;simp only[CW];rfl
theorem r6(l:List bN):(fs:List bN)->(jw fs l).length<=fs.length
 |[]=>by simp[jw]
 |f:: fs=>by
  have:=r6 l fs
  rw[lc,Hu,G4];cases CW f l<;>simp<;>omega
def pN(n:bn)(t:Ty):aN T false 76 [(0,.str n),(1,t.av)]=some (a7 (n,t)):=by
 cases t;rfl
def Fe(f:bN):aJ T 25 1 [(0,a7 f)]=some (aB [f]):=by
 obtain⟨n,t⟩:=f;cases t;rfl
theorem zf(l:List bN):bK (aB l)=M.pure (aB l):=rfl
def zW(b:Ty)(hb:dm b)(l:List bN)(hl:l.length<=1000000000)(k:Int)(x4 x5:AV)(hk:∀f∈l,∀t:Ty,dm t->ai pg 232 [f.2.av,t.av]=M.pure (match qu f.2 t with|some u=>.tup [u.av,.bool true]|none=>.tup [ty0.av,.bool false])):∀(n i:Nat)(acc:List bN),l.length-i=n->i<=l.length->acc.length<=i->
  aj (L232_0 (ai pg) aj) [.ip (ab b.av),aB l,.int .i64 l.length,.int .i64 i,x4,x5,.int .i64 k,aB acc]=M.pure (.tup [(Ty.mk k (acc++jw (l.drop i) b.fields)).av,.bool true]):=by
 intro n
 induction n with
 |zero=>
  intro i acc hn hi ha;have h1:¬((i:Int)<(l.length:Int)):=by omega
  have h2:l.drop i=[]:=G6 (by omega);have h3:ao 2 [] (.agg [.int .i64 k,aB acc])=M.pure (.agg [.int .i64 k,aB acc]):=aM rfl;rw[FL232_0,h2];simp[L232_0,h1,jw,h3];rfl
 | succ n ih=>
  intro i acc hn hi ha;have hlt:i<l.length:=by omega
  have h1:(i:Int)<(l.length:Int):=by omega
  have h2:l.drop i=l[i]:: l.drop (i+1):=G2 hlt;have hw:IntKind.i64.wrap ((i:Int)+1)=(i:Int)+1:=aS (by omega);have hix:=lU (l:=l) (n:=(i:Int)) (by omega) h1;rw[GZ,Hd l i hlt]at hix;have hk':=hk l[i] (GY hlt);have hlk:=t181 b.fields hb.len l[i].1;have ih2:∀acc:List bN,acc.length<=i+1->aj (L232_0 (ai pg) aj) [.ip (ab b.av),aB l,.int .i64 l.length,.int .i64 ((i:Int)+1),x4,x5,.int .i64 k,aB acc]=M.pure (.tup [(Ty.mk k (acc++jw (l.drop (i+1)) b.fields)).av,.bool true]):=fun acc ha=>ih (i+1) acc (by omega) (by omega) ha;simp only[bw]at ih2;rw[FL232_0,h2,lc,tJ];generalize l[i]=f at hix hk' hlk |-;cases hz:bz (fun z:bN=>z.1== f.1) b.fields with
  |none=>
   rw[hz]at hlk;have ih':=ih2 acc (by omega);simp[L232_0,h1,hix,hlk,hw,ih']
  | some z=>
   rw[hz]at hlk;have hc:=hk' z.2 (hb.kid (fG hz).1);cases hu:qu f.2 z.2 with
   |none=>
    rw[hu]at hc;have ih':=ih2 acc (by omega);simp[L232_0,h1,hix,hlk,hw,hc,hu,ih']
   |some u=>
    rw[hu]at hc;have ih':=ih2 (acc++[(f.1,u)]) (by simp;omega);have hap:=Bc (a:=acc) (b:=[(f.1,u)]) (by simp;omega);simp[L232_0,h1,hix,hlk,hw,hc,hu,pN,Fe,hap,zf,ih']
theorem t232(a b:Ty)(ha:dm a)(hb:dm b):ai pg 232 [a.av,b.av]=M.pure (match qu a b with|some u=>.tup [u.av,.bool true]|none=>.tup [ty0.av,.bool false]):=by
 have hloop:=zW b hb a.fields ha.len a.kind (.int .i64 0) (.sl []) (fun f hf t ht=>by
  have:=tY hf
  exact t232 f.2 t (ha.kid hf) ht) a.fields.length 0 [] rfl (Hi _) (Hi _)
 rw[C232];have e1:qu a b=if a.kind=b.kind then some (.mk a.kind (jw a.fields b.fields))else none:=by
  cases a;cases b;simp only[qu,Ty.kind,Ty.fields];rfl
 have b1:aN T false 27 []=some ty0.av:=rfl;have b2:∀k:Int,aN T true 27 [(0,.int .i64 k)]=some (.agg [.int .i64 k,.hn]):=fun k=>rfl;have b3:∀k:Int,ao 2 [1] (.agg [.int .i64 k,.hn])=M.pure (.agg [.int .i64 k,.hn]):=fun k=>rfl;rw[e1];simp only[Hk,Hv]at hloop;by_cases hk:a.kind=b.kind
 ·have hk':(a.kind != b.kind)=false:=by simp[hk]
  rw[GR hk];have hloop':aj (L232_0 (ai pg) aj) [.ip (ab b.av),aB a.fields,.int .i64 a.fields.length,.int .i64 0,.int .i64 0,.sl [],.int .i64 a.kind,.sl []]=M.pure (.tup [(Ty.mk a.kind (jw a.fields b.fields)).av,.bool true]):=hloop;simp only[bw]at hloop';simp[S232,hk',b2,b3,hloop'];exact bH fun g=>by simp[cl,c5]
 ·have hk':(a.kind != b.kind)=true:=by simp[hk]
  rw[if_neg hk];simp[S232,hk',b1];exact bH fun g=>by simp[cl,c5]
termination_by SizeOf.sizeOf a
end Go.Proofs.YteemeakjlfnapaaGreatDoor
