/- What the functions of the seat compute, part 4: the texts of the claim, one behind the other. Conditions: bounds, as each theorem names them. -/
import Derived.Test.YteemeakjlfnapaaGreatDoorTc
import Derived.Shelf.SlSortCmp.NoneTotal
import Derived.Test.YteemeakjlfnapaaGreatDoorLd
import Derived.Test.YteemeakjlfnapaaGreatDoorRows
import Derived.Lib.LaidTab
import Derived.Stop.LaidErr
import Derived.Shelf.Vars
import Derived.ProofKit
import Derived.Deep.DeepHandedRow
import Derived.Deep.DeepWitnessRowRef
import Derived.Deep.DeepLaidRun
set_option linter.defProp false
set_option linter.unusedSimpArgs false
set_option linter.unusedVariables false
namespace Go.Proofs.YteemeakjlfnapaaGreatDoor.F
open Go Go.Av Go.Av.Ap
set_option maxRecDepth 100000
def tn:Ann:={ kinds:=[(1,.L),(4,.S)],hl:=[16],nl:=[16,21],lw:=[2,4,8],loops:=[(0,{ vals:=[(10,none),(11,none),(12,none),(2000,none),(2001,none),(3000,none),(3001,none)],locs:=[(1,2000,0),(2,3000,0)],lbs:=[(2000,2),(3000,2)] })] }
def gS:Ann:={ iso:=false,ha:=[7] }
noncomputable def kL:List (Nat×(Func×Ann)):=[(104,(Tryz.f104,tn))]
def own:FuncId->Option Nat:=fun _=>none
noncomputable def other:FuncId->Option ((FuncId->List AV->M AV)->List AV->M AV):=fun f=>bif Nat.beq f 163 then some (cX T 25)else none
noncomputable def pg:Pg:={ T:=T,funcs:=o7 kL,own:=own,other:=other,nw:=fun f=>bif Nat.beq f 163 then true else false }
def hOther:cQ pg:=by
 intro f E hE call calls hc;have h0:other f=some E:=hE;unfold other at h0;rcases cO h0 with rfl|h0
 ·exact mT _ _ _ _
 cases h0
noncomputable def L104_0(call:FuncId->RR)(fx:bV AV)(a:RR)(b:List AV):M AV:=ae (af (ao T BinOp.lss 3 (nth b 2) (nth b 1))) (fun c=>ay c (ae (af (ak T 25 (nth b 0) (nth b 2))) (fun d=>ae (bz T 76 d) (fun e=>ae (aE 3 e) (fun f=>ae (af (ab T 76 (.ip (aa f)) 1)) (fun g=>ae (af (ai T 27 g)) (fun h=>ae (dz (call 104 [h])) (fun i=>ae (af (ak T 25 (nth b 4) (nth b 2))) (fun j=>ae (af (ab T 76 j 1)) (fun k=>ae (bI T 27 k i) (fun l=>ae (af (ao T BinOp.add 3 (nth b 2) (.int IntKind.i64 1))) (fun m=>a [nth b 0,nth b 1,m,nth b 3,nth b 4,nth b 5,nth b 6]))))))))))) (ae (ap 2 [] (.agg [nth b 3,nth b 4])) (fun n=>M.pure (AV.agg [nth (aa n) 0,nth (aa n) 1]))))
def XL104_0{call:FuncId->RR}:cq (L104_0 call aj) fun _n=>L104_0 call aj  :=by
 intro a b c d;unfold L104_0;exact (aK.bnd (aK.const _) fun _=>(aA (aK.bnd (aK.const _) fun _=>(aK.bnd (aK.const _) fun _=>(aK.bnd (aK.const _) fun _=>(aK.bnd (aK.const _) fun _=>(aK.bnd (aK.const _) fun _=>(aK.bnd (aK.const _) fun _=>(aK.bnd (aK.const _) fun _=>(aK.bnd (aK.const _) fun _=>(aK.bnd (aK.const _) fun _=>(aK.bnd (aK.const _) fun _=>c _)))))))))) (aK.const _)))
def FL104_0(call:FuncId->RR)(vs:List AV):aj (L104_0 call aj) vs=L104_0 call aj  (aj (L104_0 call aj)) vs:=bu (XL104_0) vs
noncomputable def S104(call:FuncId->RR)(fx:bV AV)(a0:AV):M AV:=ae (aE 2 a0) (fun a=>ae (call 163 [nth (aa a) 1]) (fun b=>ae (bE b) (fun c=>ae (af (bg T 25 b)) (fun d=>fx (L104_0 call fx) [b,d,.int IntKind.i64 0,nth (aa a) 0,b,.int IntKind.i64 0,.sl []]))))
def E104(call:FuncId->List AV->M AV)(fx:bV AV)(a0:AV):bH (pg.cx call Tryz.f104.ntmps tn) fx Tryz.f104 (own 104) [a0]=S104 call fx a0:=by kernel_rfl
def C104(a0:AV):ah pg 104 [a0]=aD (S104 (ah pg) aj (cl au a0)):=(ax hOther rfl rfl rfl _).trans (Hs aD (E104 _ _ (cl au a0)))
end Go.Proofs.YteemeakjlfnapaaGreatDoor.F
namespace Go.Proofs.YteemeakjlfnapaaGreatDoor
open Go Go.Av Go.Av.Ap
set_option maxRecDepth 100000
@[simp] theorem FA24_0(cs:List AV):ab T 24 (.ip cs) 0=some (.ip (cs.drop 0)):=rfl
@[simp] theorem FH24_0(l k:Nat):ab T 24 (.hp l k) 0=some (.hp l (k+0)):=rfl
@[simp] theorem FA24_1(cs:List AV):ab T 24 (.ip cs) 1=some (.ip (cs.drop 1)):=rfl
@[simp] theorem FH24_1(l k:Nat):ab T 24 (.hp l k) 1=some (.hp l (k+1)):=rfl
@[simp] theorem FA27_0(cs:List AV):ab T 27 (.ip cs) 0=some (.ip (cs.drop 0)):=rfl
@[simp] theorem FH27_0(l k:Nat):ab T 27 (.hp l k) 0=some (.hp l (k+0)):=rfl
@[simp] theorem FA27_1(cs:List AV):ab T 27 (.ip cs) 1=some (.ip (cs.drop 1)):=rfl
@[simp] theorem FH27_1(l k:Nat):ab T 27 (.hp l k) 1=some (.hp l (k+1)):=rfl
@[simp] theorem FA39_0(cs:List AV):ab T 39 (.ip cs) 0=some (.ip (cs.drop 0)):=rfl
@[simp] theorem FH39_0(l k:Nat):ab T 39 (.hp l k) 0=some (.hp l (k+0)):=rfl
@[simp] theorem FA39_1(cs:List AV):ab T 39 (.ip cs) 1=some (.ip (cs.drop 1)):=rfl
@[simp] theorem FH39_1(l k:Nat):ab T 39 (.hp l k) 1=some (.hp l (k+1)):=rfl
@[simp] theorem FA39_2(cs:List AV):ab T 39 (.ip cs) 2=some (.ip (cs.drop 2)):=rfl
@[simp] theorem FH39_2(l k:Nat):ab T 39 (.hp l k) 2=some (.hp l (k+2)):=rfl
@[simp] theorem FA41_0(cs:List AV):ab T 41 (.ip cs) 0=some (.ip (cs.drop 0)):=rfl
@[simp] theorem FH41_0(l k:Nat):ab T 41 (.hp l k) 0=some (.hp l (k+0)):=rfl
@[simp] theorem FA41_1(cs:List AV):ab T 41 (.ip cs) 1=some (.ip (cs.drop 1)):=rfl
@[simp] theorem FH41_1(l k:Nat):ab T 41 (.hp l k) 1=some (.hp l (k+1)):=rfl
@[simp] theorem FA41_2(cs:List AV):ab T 41 (.ip cs) 2=some (.ip (cs.drop 2)):=rfl
@[simp] theorem FH41_2(l k:Nat):ab T 41 (.hp l k) 2=some (.hp l (k+2)):=rfl
@[simp] theorem FA41_3(cs:List AV):ab T 41 (.ip cs) 3=some (.ip (cs.drop 3)):=rfl
@[simp] theorem FH41_3(l k:Nat):ab T 41 (.hp l k) 3=some (.hp l (k+3)):=rfl
@[simp] theorem FA41_4(cs:List AV):ab T 41 (.ip cs) 4=some (.ip (cs.drop 4)):=rfl
@[simp] theorem FH41_4(l k:Nat):ab T 41 (.hp l k) 4=some (.hp l (k+4)):=rfl
@[simp] theorem FA41_5(cs:List AV):ab T 41 (.ip cs) 5=some (.ip (cs.drop 5)):=rfl
@[simp] theorem FH41_5(l k:Nat):ab T 41 (.hp l k) 5=some (.hp l (k+5)):=rfl
@[simp] theorem FA41_6(cs:List AV):ab T 41 (.ip cs) 6=some (.ip (cs.drop 6)):=rfl
@[simp] theorem FH41_6(l k:Nat):ab T 41 (.hp l k) 6=some (.hp l (k+6)):=rfl
@[simp] theorem FA47_0(cs:List AV):ab T 47 (.ip cs) 0=some (.ip (cs.drop 0)):=rfl
@[simp] theorem FH47_0(l k:Nat):ab T 47 (.hp l k) 0=some (.hp l (k+0)):=rfl
@[simp] theorem FA47_1(cs:List AV):ab T 47 (.ip cs) 1=some (.ip (cs.drop 1)):=rfl
@[simp] theorem FH47_1(l k:Nat):ab T 47 (.hp l k) 1=some (.hp l (k+1)):=rfl
@[simp] theorem FA47_2(cs:List AV):ab T 47 (.ip cs) 2=some (.ip (cs.drop 2)):=rfl
@[simp] theorem FH47_2(l k:Nat):ab T 47 (.hp l k) 2=some (.hp l (k+2)):=rfl
@[simp] theorem FA47_3(cs:List AV):ab T 47 (.ip cs) 3=some (.ip (cs.drop 3)):=rfl
@[simp] theorem FH47_3(l k:Nat):ab T 47 (.hp l k) 3=some (.hp l (k+3)):=rfl
@[simp] theorem FA47_4(cs:List AV):ab T 47 (.ip cs) 4=some (.ip (cs.drop 4)):=rfl
@[simp] theorem FH47_4(l k:Nat):ab T 47 (.hp l k) 4=some (.hp l (k+4)):=rfl
@[simp] theorem FA47_5(cs:List AV):ab T 47 (.ip cs) 5=some (.ip (cs.drop 5)):=rfl
@[simp] theorem FH47_5(l k:Nat):ab T 47 (.hp l k) 5=some (.hp l (k+5)):=rfl
@[simp] theorem FA56_0(cs:List AV):ab T 56 (.ip cs) 0=some (.ip (cs.drop 0)):=rfl
@[simp] theorem FH56_0(l k:Nat):ab T 56 (.hp l k) 0=some (.hp l (k+0)):=rfl
@[simp] theorem FA56_1(cs:List AV):ab T 56 (.ip cs) 1=some (.ip (cs.drop 1)):=rfl
@[simp] theorem FH56_1(l k:Nat):ab T 56 (.hp l k) 1=some (.hp l (k+1)):=rfl
@[simp] theorem FA56_2(cs:List AV):ab T 56 (.ip cs) 2=some (.ip (cs.drop 2)):=rfl
@[simp] theorem FH56_2(l k:Nat):ab T 56 (.hp l k) 2=some (.hp l (k+2)):=rfl
@[simp] theorem FA56_3(cs:List AV):ab T 56 (.ip cs) 3=some (.ip (cs.drop 4)):=rfl
@[simp] theorem FH56_3(l k:Nat):ab T 56 (.hp l k) 3=some (.hp l (k+4)):=rfl
@[simp] theorem FA73_0(cs:List AV):ab T 73 (.ip cs) 0=some (.ip (cs.drop 0)):=rfl
@[simp] theorem FH73_0(l k:Nat):ab T 73 (.hp l k) 0=some (.hp l (k+0)):=rfl
@[simp] theorem FA73_1(cs:List AV):ab T 73 (.ip cs) 1=some (.ip (cs.drop 1)):=rfl
@[simp] theorem FH73_1(l k:Nat):ab T 73 (.hp l k) 1=some (.hp l (k+1)):=rfl
@[simp] theorem FA73_2(cs:List AV):ab T 73 (.ip cs) 2=some (.ip (cs.drop 2)):=rfl
@[simp] theorem FH73_2(l k:Nat):ab T 73 (.hp l k) 2=some (.hp l (k+2)):=rfl
@[simp] theorem FA73_3(cs:List AV):ab T 73 (.ip cs) 3=some (.ip (cs.drop 3)):=rfl
@[simp] theorem FH73_3(l k:Nat):ab T 73 (.hp l k) 3=some (.hp l (k+3)):=rfl
@[simp] theorem FA73_4(cs:List AV):ab T 73 (.ip cs) 4=some (.ip (cs.drop 5)):=rfl
@[simp] theorem FH73_4(l k:Nat):ab T 73 (.hp l k) 4=some (.hp l (k+5)):=rfl
@[simp] theorem FA73_5(cs:List AV):ab T 73 (.ip cs) 5=some (.ip (cs.drop 6)):=rfl
@[simp] theorem FH73_5(l k:Nat):ab T 73 (.hp l k) 5=some (.hp l (k+6)):=rfl
@[simp] theorem FA76_0(cs:List AV):ab T 76 (.ip cs) 0=some (.ip (cs.drop 0)):=rfl
@[simp] theorem FH76_0(l k:Nat):ab T 76 (.hp l k) 0=some (.hp l (k+0)):=rfl
@[simp] theorem FA76_1(cs:List AV):ab T 76 (.ip cs) 1=some (.ip (cs.drop 1)):=rfl
@[simp] theorem FH76_1(l k:Nat):ab T 76 (.hp l k) 1=some (.hp l (k+1)):=rfl
@[simp] theorem FA104_1(cs:List AV):ab T 104 (.ip cs) 1=some (.ip (cs.drop 1)):=rfl
@[simp] theorem FH104_1(l k:Nat):ab T 104 (.hp l k) 1=some (.hp l (k+1)):=rfl
@[simp] theorem FA141_0(cs:List AV):ab T 141 (.ip cs) 0=some (.ip (cs.drop 0)):=rfl
@[simp] theorem FH141_0(l k:Nat):ab T 141 (.hp l k) 0=some (.hp l (k+0)):=rfl
@[simp] theorem FA141_1(cs:List AV):ab T 141 (.ip cs) 1=some (.ip (cs.drop 9)):=rfl
@[simp] theorem FH141_1(l k:Nat):ab T 141 (.hp l k) 1=some (.hp l (k+9)):=rfl
@[simp] theorem FA141_2(cs:List AV):ab T 141 (.ip cs) 2=some (.ip (cs.drop 10)):=rfl
@[simp] theorem FH141_2(l k:Nat):ab T 141 (.hp l k) 2=some (.hp l (k+10)):=rfl
@[simp] theorem FA163_0(cs:List AV):ab T 163 (.ip cs) 0=some (.ip (cs.drop 0)):=rfl
@[simp] theorem FH163_0(l k:Nat):ab T 163 (.hp l k) 0=some (.hp l (k+0)):=rfl
@[simp] theorem FA163_1(cs:List AV):ab T 163 (.ip cs) 1=some (.ip (cs.drop 1)):=rfl
@[simp] theorem FH163_1(l k:Nat):ab T 163 (.hp l k) 1=some (.hp l (k+1)):=rfl
@[simp] theorem LD3(x:AV)(l:List AV):ai T 3 (.ip (x:: l))=some x:=rfl
@[simp] theorem LD4(x:AV)(l:List AV):ai T 4 (.ip (x:: l))=some x:=rfl
@[simp] theorem LD9(x:AV)(l:List AV):ai T 9 (.ip (x:: l))=some x:=rfl
@[simp] theorem LD22(x:AV)(l:List AV):ai T 22 (.ip (x:: l))=some x:=rfl
@[simp] theorem LD24(cs:List AV):ai T 24 (.ip cs)=if 2<=cs.length then some (.agg (cs.take 2))else none:=rfl
@[simp] theorem LD25(x:AV)(l:List AV):ai T 25 (.ip (x:: l))=some x:=rfl
@[simp] theorem LD27(cs:List AV):ai T 27 (.ip cs)=if 2<=cs.length then some (.agg (cs.take 2))else none:=rfl
@[simp] theorem LD35(x:AV)(l:List AV):ai T 35 (.ip (x:: l))=some x:=rfl
@[simp] theorem LD36(x:AV)(l:List AV):ai T 36 (.ip (x:: l))=some x:=rfl
@[simp] theorem LD37(x:AV)(l:List AV):ai T 37 (.ip (x:: l))=some x:=rfl
@[simp] theorem LD41(cs:List AV):ai T 41 (.ip cs)=if 9<=cs.length then some (.agg (cs.take 9))else none:=rfl
@[simp] theorem LD47(cs:List AV):ai T 47 (.ip cs)=if 6<=cs.length then some (.agg (cs.take 6))else none:=rfl
@[simp] theorem LD54(x:AV)(l:List AV):ai T 54 (.ip (x:: l))=some x:=rfl
@[simp] theorem LD56(cs:List AV):ai T 56 (.ip cs)=if 5<=cs.length then some (.agg (cs.take 5))else none:=rfl
@[simp] theorem LD73(cs:List AV):ai T 73 (.ip cs)=if 12<=cs.length then some (.agg (cs.take 12))else none:=rfl
@[simp] theorem LD76(cs:List AV):ai T 76 (.ip cs)=if 3<=cs.length then some (.agg (cs.take 3))else none:=rfl
@[simp] theorem LD102(x:AV)(l:List AV):ai T 102 (.ip (x:: l))=some x:=rfl
@[simp] theorem LD139(x:AV)(l:List AV):ai T 139 (.ip (x:: l))=some x:=rfl
@[simp] theorem F7(s:bA):bg T 9 (.str s)=some (.int .i64 s.length):=rfl
@[simp] theorem Eg(es:List AV):bg T 22 (.sl es)=some (.int .i64 es.length):=rfl
@[simp] theorem Gf:bg T 22 .hn=some (.int .i64 0):=rfl
@[simp] theorem Ga(l k n s:Nat)(a:Bool):bg T 22 (.hs l k n s a)=some (.int .i64 n):=rfl
@[simp] theorem F8(l:List Sig):bg T 22 (sigs l)=some (.int .i64 l.length):=(Eg _).trans (by simp)
@[simp] theorem Bz(es:List AV):bg T 25 (.sl es)=some (.int .i64 es.length):=rfl
@[simp] theorem Gg:bg T 25 .hn=some (.int .i64 0):=rfl
@[simp] theorem Cq(l k n s:Nat)(a:Bool):bg T 25 (.hs l k n s a)=some (.int .i64 n):=rfl
@[simp] theorem xn(l:List bi):bg T 25 (az l)=some (.int .i64 l.length):=(Bz _).trans (by simp[bZ])
@[simp] theorem Eh(es:List AV):bg T 35 (.sl es)=some (.int .i64 es.length):=rfl
@[simp] theorem Gh:bg T 35 .hn=some (.int .i64 0):=rfl
@[simp] theorem Gb(l k n s:Nat)(a:Bool):bg T 35 (.hs l k n s a)=some (.int .i64 n):=rfl
@[simp] theorem xo(l:List bA):bg T 35 (strs l)=some (.int .i64 l.length):=(Eh _).trans (by simp)
@[simp] theorem Ei(es:List AV):bg T 36 (.sl es)=some (.int .i64 es.length):=rfl
@[simp] theorem Gi:bg T 36 .hn=some (.int .i64 0):=rfl
@[simp] theorem Gc(l k n s:Nat)(a:Bool):bg T 36 (.hs l k n s a)=some (.int .i64 n):=rfl
@[simp] theorem xp(l:List Exp):bg T 36 (cm l)=some (.int .i64 l.length):=(Ei _).trans (by simp[fZ])
@[simp] theorem Ej(es:List AV):bg T 37 (.sl es)=some (.int .i64 es.length):=rfl
@[simp] theorem Gj:bg T 37 .hn=some (.int .i64 0):=rfl
@[simp] theorem Gd(l k n s:Nat)(a:Bool):bg T 37 (.hs l k n s a)=some (.int .i64 n):=rfl
@[simp] theorem Co(l:List Fun):bg T 37 (iz l)=some (.int .i64 l.length):=(Ej _).trans (by simp)
@[simp] theorem BA(es:List AV):bg T 54 (.sl es)=some (.int .i64 es.length):=rfl
@[simp] theorem Gk:bg T 54 .hn=some (.int .i64 0):=rfl
@[simp] theorem Cr(l k n s:Nat)(a:Bool):bg T 54 (.hs l k n s a)=some (.int .i64 n):=rfl
@[simp] theorem F9(l:List Ty):bg T 54 (dM l)=some (.int .i64 l.length):=(BA _).trans (by simp)
@[simp] theorem Ek(es:List AV):bg T 78 (.sl es)=some (.int .i64 es.length):=rfl
@[simp] theorem Gl:bg T 78 .hn=some (.int .i64 0):=rfl
@[simp] theorem Ge(l k n s:Nat)(a:Bool):bg T 78 (.hs l k n s a)=some (.int .i64 n):=rfl
@[simp] theorem Cp(l:List Face):bg T 78 (faces l)=some (.int .i64 l.length):=(Ek _).trans (by simp)
def Ao{l:List Sig}{n:Int}(h0:0<=n)(h:n<(l.length:Int)):ak T 22 (sigs l) (.int .i64 n)=some (.ip (aa (Sig.av l[n.toNat]!))):=cG (T:=T) (t:=22) (e:=56) rfl rfl rfl (fun _=>by first|rfl|(simp;done)|(simp;rfl)) h0 h
def pR{l:List bi}{n:Int}(h0:0<=n)(h:n<(l.length:Int)):ak T 25 (az l) (.int .i64 n)=some (.ip (aa (aZ l[n.toNat]!))):=by rw[az,bZ];exact cG (T:=T) (t:=25) (e:=76) rfl rfl rfl (fun _=>by first|rfl|(simp;done)|(simp;rfl)) h0 h
def xk{l:List bA}{n:Int}(h0:0<=n)(h:n<(l.length:Int)):ak T 35 (strs l) (.int .i64 n)=some (.ip (aa (AV.str l[n.toNat]!))):=cG (T:=T) (t:=35) (e:=9) rfl rfl rfl (fun _=>by first|rfl|(simp;done)|(simp;rfl)) h0 h
def qY{l:List Exp}{n:Int}(h0:0<=n)(h:n<(l.length:Int)):ak T 36 (cm l) (.int .i64 n)=some (.ip (aa (Exp.av l[n.toNat]!))):=by rw[cm,fZ];exact cG (T:=T) (t:=36) (e:=47) rfl rfl rfl (fun _=>by first|rfl|(simp;done)|(simp;rfl)) h0 h
def Cm{l:List Fun}{n:Int}(h0:0<=n)(h:n<(l.length:Int)):ak T 37 (iz l) (.int .i64 n)=some (.ip (aa (Fun.av l[n.toNat]!))):=cG (T:=T) (t:=37) (e:=73) rfl rfl rfl (fun _=>by first|rfl|(simp;done)|(simp;rfl)) h0 h
def mz{l:List Ty}{n:Int}(h0:0<=n)(h:n<(l.length:Int)):ak T 54 (dM l) (.int .i64 n)=some (.ip (aa (Ty.av l[n.toNat]!))):=cG (T:=T) (t:=54) (e:=27) rfl rfl rfl (fun _=>by first|rfl|(simp;done)|(simp;rfl)) h0 h
def F6{l:List Face}{n:Int}(h0:0<=n)(h:n<(l.length:Int)):ak T 78 (faces l) (.int .i64 n)=some (.ip (aa (Face.av l[n.toNat]!))):=cG (T:=T) (t:=78) (e:=24) rfl rfl rfl (fun _=>by first|rfl|(simp;done)|(simp;rfl)) h0 h
def Am{a b:List bi}(h:(a.length+b.length)*48<=140737488355328):dV T 25 (az a) (az b)=some (az (a++b)):=by
 have:=re (T:=T) (t:=25) (e:=76) rfl rfl rfl (f:=aZ) (fun _=>by first|rfl|(simp;done)|(simp;rfl)) (a:=a) (b:=b) h (by decide)
 simpa [az,bZ]using this
def Ed{a b:List Ty}(h:(a.length+b.length)*32<=140737488355328):dV T 54 (dM a) (dM b)=some (dM (a++b)):=by
 have:=re (T:=T) (t:=54) (e:=27) rfl rfl rfl (f:=Ty.av) (fun _=>by first|rfl|(simp;done)|(simp;rfl)) (a:=a) (b:=b) h (by decide)
 simpa [dM]using this
def EX(e:AV)(es:List AV):bH (rB Tryz.f163.ntmps gS) (cv 0) Tryz.f163 (some 3) [.sl (e:: es)]=ae (af (dV T 25 (.sl []) (.sl (e:: es)))) fun v=>ae (af (some v)) M.pure:=by kernel_rfl
def EY:bH (rB Tryz.f163.ntmps gS) (cv 0) Tryz.f163 (some 3) [.hn]=ae (af (some (.sl []))) M.pure:=by kernel_rfl
def EZ(l off:Nat):bH (rB Tryz.f163.ntmps gS) (cv 0) Tryz.f163 (some 3) [.hs l off 0 1 false]=ae (af (dV T 25 (.sl []) (.hs l off 0 1 false))) fun v=>ae (af (some v)) M.pure:=by kernel_rfl
def E0(l off:Nat):dV T 25 (.sl []) (.hs l off 0 1 false)=some (.sl []):=by rfl
def um(call:FuncId->List AV->M AV)(args:List AV)(h:Hp)(S:ar)(β:List bj)(w:World)(vs:List Value)(hr:gX T 25 call args h≠.fail)(hg:mm β h w)(hw:Wf S w)(hh:cf S β w h)(hv:aN S β args vs):
  Calls Tryz.prog 163 vs.toArray w (dc (some 3) S β h w (gX T 25 call args h)):=by
 have key:∀es,args=[.sl es]->Calls Tryz.prog 163 vs.toArray w (dc (some 3) S β h w (gX T 25 call args h)):=by
  rintro es rfl;exact (iI (cx:=rB Tryz.f163.ntmps gS) (own:=some 3) (E:=fun es h=>gX T 25 call [.sl es] h) tok (kV _ _) (qh _ _) Tryz.func163 rfl (fun h=>by rfl) (fun e es h=>by rw[EX];exact Kv (tA _) h) (fun h=>by rw[EY];rfl) (fun l off h=>by rw[EZ,E0];rfl) hr hg hw hh hv).1
 unfold gX at hr;split at hr
 ·exact key _ rfl
 ·exact absurd rfl hr
end Go.Proofs.YteemeakjlfnapaaGreatDoor
namespace Go.Proofs.YteemeakjlfnapaaGreatDoor.F
open Go Go.Av Go.Av.Ap
set_option maxRecDepth 100000
def E8(e:AV)(es:List AV):bH (rB Tryz.f163.ntmps gS) (cv 0) Tryz.f163 none [.sl (e:: es)]=ae (appH T 25 true (.sl []) (.sl (e:: es))) fun v=>ae (af (some v)) M.pure:=by kernel_rfl
def E9:bH (rB Tryz.f163.ntmps gS) (cv 0) Tryz.f163 none [.hn]=ae (af (some (.sl []))) M.pure:=by kernel_rfl
def Fa(l off:Nat):bH (rB Tryz.f163.ntmps gS) (cv 0) Tryz.f163 none [.hs l off 0 1 false]=ae (appH T 25 true (.sl []) (.hs l off 0 1 false)) fun v=>ae (af (some v)) M.pure:=by kernel_rfl
def um(call:FuncId->List AV->M AV)(args:List AV)(h:Hp)(S:ar)(β:List bj)(w:World)(vs:List Value)(hr:cX T 25 call args h≠.fail)(hg:mm β h w)(hw:Wf S w)(hh:cf S β w h)(hv:aN S β args vs):
  Calls Tryz.prog 163 vs.toArray w (dc none S β h w (cX T 25 call args h)):=by
 have key:∀es,args=[.sl es]->Calls Tryz.prog 163 vs.toArray w (dc none S β h w (cX T 25 call args h)):=by
  rintro es rfl;exact (iI (cx:=rB Tryz.f163.ntmps gS) (E:=fun es h=>cX T 25 call [.sl es] h) tok (kV _ _) (qh _ _) Tryz.func163 rfl (fun h=>by rfl) (fun e es h=>by rw[E8];exact Kv (tA _) h) (fun h=>by rw[E9];rfl) (fun l off h=>by rw[Fa];rfl) hr hg hw hh hv).1
 unfold cX at hr;split at hr
 ·exact key _ rfl
 ·exact absurd rfl hr
def qQ:(kL.map fun x=>Tryz.prog.funcs[x.1]?)=kL.map fun x=>some x.2.1:=by kernel_rfl
def jU:(kL.map fun x=>x.2.1.name== "runtime.NumGoroutine")=kL.map fun _=>false:=by kernel_rfl
def Gn{f k:Nat}{α:Type}{x y:α}{o:Option α}(h:(bif Nat.beq f k then some x else o)=some y):(f=k/\x=y)\/o=some y:=by
 cases hb:Nat.beq f k with
 |true=>rw[hb]at h;exact .inl ⟨Hv hb,by simpa using h⟩
 |false=>rw[hb]at h;exact .inr h
def good:GoodPg Tryz.prog pg where
 tok:=tok
 funcs:=fun f fn a h=>by
  have:=lc kL f (fn,a) h
  exact⟨eZ qQ _ this,eZ jU _ this⟩
 other:=by
  intro f E hE call hC args h S β w vs hr hg hw hh hv;have h0:other f=some E:=hE;unfold other at h0;rcases Gn h0 with⟨rfl,rfl⟩|h0
  ·exact⟨um call args h S β w vs hr hg hw hh hv,by kernel_rfl⟩
  cases h0
 nw:=by
  intro f hf;have h0:(bif Nat.beq f 163 then true else false)=true:=hf;cases hb:Nat.beq f 163 with
  |true=>
   have:=Hv hb
   subst this;exact⟨_,rfl,fun call args=>oX _ _ _ _⟩
  |false=>rw[hb]at h0;cases h0
def aF{α β:Type}{m:M α}{a:α}{h h':Hp}(e:m h= .ok a h')(f:α->M β):ae m f h=f a h':=by simp only[ae,e]
def BZ(x:bi):(aa (aZ x)).length=3:=by simp
def iM(l:List bi):az l= .sl (l.map aZ):=by rw[az,bZ]
def zr{q:Nat}{l:List bi}{i:Nat}{h:Hp}(hi:i<l.length)(hq:h[q]? = some (rowOf aZ l)):bz T 76 (.hp q (0+i*3)) h= .ok (aZ l[i]) h:=by
 have hlen:=ff (f:=aZ) BZ l;rw[pq (T:=T) (t:=76) rfl rfl hq (show 0+i*3+3<=_ by omega)];show R.ok (AV.agg (((rowOf aZ l).drop (0+i*3)).take 3)) h=_;rw[HJ,ez BZ l i hi,cF,f7]
def z7{q:Nat}{l:List bi}{i:Nat}{h:Hp}(hi:i<l.length)(hq:h[q]? = some (rowOf aZ l)):bI T 27 (.hp q (0+i*3+1)) l[i].2.av h= .ok (.tup []) h:=by
 have hlen:=ff (f:=aZ) BZ l;refine mg (T:=T) (t:=27) rfl hq (Ap.fN _) (show 0+i*3+1+2<=_ by omega) (by decide) ?_
 have:=ez BZ l i hi
 have h2:((rowOf aZ l).drop (0+i*3+1)).take 2=(((rowOf aZ l).drop (i*3)).take 3).drop 1:=by
  rw[List.drop_take,JE];congr 2;omega
 rw[bm];show ((rowOf aZ l).drop (0+i*3+1)).take 2=_;rw[h2,this,cF];rfl
theorem G6{q n i:Nat}(h:i<n):ak T 25 (.hs q 0 n 3 true) (.int .i64 (i:Int))=some (.hp q (0+i*3)):=by
 have e:ak T 25 (.hs q 0 n 3 true) (.int .i64 (i:Int))=if 0<=(i:Int)/\(i:Int)<(n:Int)then some (.hp q (0+(i:Int).toNat*3))else none:=rfl;rw[e,Ht (by omega),HH]
def A7(t:Ty)(hb:t.fields.length<=4611686018427387904)(hk:∀f∈t.fields,ah pg 104 [f.2.av]=M.pure f.2.av)(q:Nat)(h:Hp)(hq:h[q]? = some (rowOf aZ t.fields))(x5 x6:AV):∀(n i:Nat),t.fields.length-i=n->i<=t.fields.length->
  aj (L104_0 (ah pg) aj) [.hs q 0 t.fields.length 3 true,.int .i64 t.fields.length,.int .i64 i,.int .i64 t.kind,.hs q 0 t.fields.length 3 true,x5,x6] h= .ok (.agg [.int .i64 t.kind,.hs q 0 t.fields.length 3 true]) h:=by
 intro n
 induction n with
 |zero=>
  intro i hn hi;rw[FL104_0];have h1:¬((i:Int)<(t.fields.length:Int)):=by omega
  have h2:ap 2 [] (.agg [.int .i64 t.kind,.hs q 0 t.fields.length 3 true])=M.pure (.agg [.int .i64 t.kind,.hs q 0 t.fields.length 3 true]):=aS rfl;simp[L104_0,h1,h2,M.pure]
 |succ n ih=>
  intro i hn hi;have hlt:i<t.fields.length:=by omega
  have h1:(i:Int)<(t.fields.length:Int):=by omega
  have ih':=ih (i+1) (by omega) (by omega);have hw:IntKind.i64.wrap ((i:Int)+1)=((i+1:Nat):Int):=be (by omega);have hc:=hk t.fields[i] (HD hlt);rw[<- ih'];generalize hcode:aj (L104_0 (ah pg) aj) [.hs q 0 t.fields.length 3 true,.int .i64 t.fields.length,.int .i64 i,.int .i64 t.kind,.hs q 0 t.fields.length 3 true,x5,x6] h=code;rw[FL104_0]at hcode;simp -implicitDefEqProofs only[L104_0,a7,bc,bJ,aG,aY,h1,Iq,H7,G6 hlt]at hcode;rw[aF (zr hlt hq)]at hcode;simp -implicitDefEqProofs only[tI,aV,cF,FA76_1,aG,Iw,Ia,LD27,HG,HM,HJ,Nat.reduceAdd,Hu,H7,HY,H9,bW,hc,e9,FH76_1]at hcode;rw[show (i*3+1)=0+i*3+1 by omega]at hcode;rw[aF (z7 hlt hq)]at hcode;simp -implicitDefEqProofs only[d7,aG,hw]at hcode;rw[<- hcode]
theorem t104:∀(d:Nat)(t:Ty),sn d t->ah pg 104 [t.av]=M.pure t.av
 |0,t,h=>h.elim
 | d+1,t,h=>by
  have hlen:t.fields.length<=100:=h.1;have ih:∀f∈t.fields,ah pg 104 [f.2.av]=M.pure f.2.av:=fun f hf=>t104 d f.2 (h.2 f hf);have e0:ah pg 163 [az t.fields]=cX T 25 (ah pg) [az t.fields]:=eq hOther rfl _;have e1:=mU (T:=T) (t:=25) (f:=aZ) (sz:=3) rfl rfl rfl rfl rfl (by decide) (by decide) (fun x=>gb x) (ah pg) t.fields (show t.fields.length*48<=140737488355328 by omega) [];rw[<- iM,<- e0]at e1;rw[C104];funext hp;show aD _ hp=R.ok t.av hp;by_cases hf:t.fields=[]
  ·rw[Ht hf]at e1;have e2:ap 2 [] (.agg [.int .i64 t.kind,.sl []])=M.pure (.agg [.int .i64 t.kind,.sl []]):=aS rfl;have key:S104 (ah pg) aj (cl au t.av) []= .ok (.agg [.int .i64 t.kind,.sl []]) []:=by
    simp only[S104,mS,dA,aV,bm,a7,bc];rw[aF e1];simp only[bE,aX,Hr,aG,Bz];rw[FL104_0];simp[L104_0,e2,M.pure]
   unfold aD;rw[key];have:(AV.agg [.int .i64 t.kind,.sl []])=t.av:=by rw[<- bW,hf];rfl
   rw[this];simp only[R.ok.injEq,Kg];exact (Clean.frz (fun g=>mS g t) 6 [])
  ·rw[if_neg hf]at e1;have hq:([]++[rowOf aZ t.fields]:Hp)[0]? = some (rowOf aZ t.fields):=rfl;have key:S104 (ah pg) aj (cl au t.av) []= .ok (.agg [.int .i64 t.kind,.hs 0 0 t.fields.length 3 true]) ([]++[rowOf aZ t.fields]):=by
    simp only[S104,mS,dA,aV,bm,a7,bc];rw[aF e1];simp only[bE,aX,Hr,aG,Cq,HM];exact A7 t (by omega) ih 0 _ hq _ _ t.fields.length 0 rfl (by omega)
   unfold aD;rw[key];have hfr:=lh (f:=aZ) BZ (fun x=>by rw[cF,f7]) (fun x g=>yH g x) (by decide) hq 5;have:gy 6 ([]++[rowOf aZ t.fields]) (.agg [.int .i64 t.kind,.hs 0 0 t.fields.length 3 true])=t.av:=by
    rw[<- bW,iM,<- hfr];rfl
   show R.ok (gy 6 _ _) hp=_;rw[this]
end Go.Proofs.YteemeakjlfnapaaGreatDoor.F
namespace Go.Proofs.YteemeakjlfnapaaGreatDoor
open Go Go.Av Go.Av.Ap
def Dp(call:FuncId->List AV->M AV)(args:List AV)(h:Hp)(S:ar)(β:List bj)(w:World)(vs:List Value)(hr:jc call args h≠.fail)(hg:mm β h w)(hw:Wf S w)(hh:cf S β w h)(hv:aN S β args vs):
  Calls Tryz.prog 104 vs.toArray w (dc none S β h w (jc call args h)):=by
 unfold jc at hr |-;split at hr
 ·rename_i v;cases hc:Bt 5 v with
  |false=>rw[hc]at hr;exact absurd rfl hr
  |true=>
   obtain⟨t,rfl,ht⟩:=s6 5 v hc;have e:=Kv (F.t104 5 t ht) h
   have:=(iF F.good F.hOther 104 [t.av] h S β w vs (by rw[e];simp[M.pure]) hg hw hh hv).1
   rw[e]at this;exact this
 ·exact absurd rfl hr
theorem pt:∀(d:Nat)(t:Ty),b9 d t=true->sn d t
 |0,t,h=>by cases h
 |d+1,t,h=>by
  rw[dp]at h;simp only[Hq,Hy,Hx]at h;exact⟨by have:=h.1.1.2;omega,fun f hf=>pt d f.2 (h.2.1 f hf).2⟩
end Go.Proofs.YteemeakjlfnapaaGreatDoor
namespace Go.Proofs.YteemeakjlfnapaaGreatDoor.D
open Go Go.Av Go.Av.Ap
set_option maxRecDepth 100000
noncomputable def pg:Pg:={ T:=T,funcs:=o7 kL,own:=own,other:=fun _=>none }
def hOther:cQ pg:=fun f E h=>by cases h
def E169(call:FuncId->List AV->M AV)(fx:bV AV)(a0:AV):bH (pg.cx call Tryz.f169.ntmps tt) fx Tryz.f169 (own 169) [a0]=S169 call fx a0:=by kernel_rfl
def C169(a0:AV):ah pg 169 [a0]=aD (S169 (ah pg) aj (cl au a0)):=(ax hOther rfl rfl rfl _).trans (Hs aD (E169 _ _ (cl au a0)))
def E109(call:FuncId->List AV->M AV)(fx:bV AV)(a0 a1:AV):bH (pg.cx call Tryz.f109.ntmps tr) fx Tryz.f109 (own 109) [a0,a1]=S109 call fx a0 a1:=by kernel_rfl
def C109(a0 a1:AV):ah pg 109 [a0,a1]=aD (S109 (ah pg) aj (cl au a0) (cl au a1)):=(ax hOther rfl rfl rfl _).trans (Hs aD (E109 _ _ (cl au a0) (cl au a1)))
def E108(call:FuncId->List AV->M AV)(fx:bV AV)(a0 a1:AV):bH (pg.cx call Tryz.f108.ntmps tq) fx Tryz.f108 (own 108) [a0,a1]=S108 call fx a0 a1:=by kernel_rfl
def C108(a0 a1:AV):ah pg 108 [a0,a1]=aD (S108 (ah pg) aj (cl au a0) (cl au a1)):=(ax hOther rfl rfl rfl _).trans (Hs aD (E108 _ _ (cl au a0) (cl au a1)))
@[simp] theorem FZ(t:Nat)(a b:bA):ao T .gtr t (.str a) (.str b)=some (.bool !(aR a b||a== b)):=rfl
theorem t169(s:bA):ah pg 169 [.str s]=M.pure (.bool false):=by
 rw[C169];have e:ao T .neq 9 (.str s) (.str s)=some (.bool !(s== s)):=rfl;simp[S169,e]
def t109(a b:bA):ah pg 109 [.str a,.str b]=M.pure (.int .i64 (wo a b)):=by
 rw[C109];unfold wo;cases h1:aR a b with
 |true=>simp[S109,t169,h1]
 | false=>
  by_cases h2:a=b
  ·subst h2;simp[S109,t169,dj]
  ·have h3:=fo a b h1 h2;have h4:(a== b)=false:=HB.2 h2;simp[S109,t169,h1,h3,h2]
def t108(a b:bA)(x1 x2 x3 x4 y1 y2 y3 y4:AV):ah pg 108 [.agg [.str a,x1,x2,x3,x4],.agg [.str b,y1,y2,y3,y4]]=M.pure (.int .i64 (wo a b)):=by
 rw[C108];have f0:∀cs,ab T 56 (.ip cs) 0=some (.ip (cs.drop 0)):=fun cs=>rfl;have l0:∀(s:bA)(cs:List AV),ai T 9 (.ip (.str s:: cs))=some (.str s):=fun s cs=>rfl;simp[S108,cl,dy,aa,f0,l0,t109]
def good:@GoodPg ⟨True⟩ Tryz.prog pg:=by
 letI:Dr:=⟨True⟩
 exact⟨tok,rV,(fun f E h=>by cases h),(fun f h=>by cases h)⟩
end Go.Proofs.YteemeakjlfnapaaGreatDoor.D
namespace Go.Proofs.YteemeakjlfnapaaGreatDoor
open Go Go.Av Go.Av.Ap Go.RowKit Go.Sort
set_option maxRecDepth 1000000
def GO(keys:List bA)(n:Nat):SWO (ltOf (EO keys n)):=by
 have h:∀i j,ltOf (EO keys n) i j=aR keys[i % n]! keys[j % n]!:=fun i j=>by
  unfold ltOf EO wo;cases h1:aR keys[i % n]! keys[j % n]! with
  |true=>simp
  |false=>
   cases h2:aR keys[j % n]! keys[i % n]! <;> simp
 refine⟨fun x=>?_,fun x y z=>?_,fun x y z=>?_⟩
 ·rw[h,dj]
 ·rw[h,h,h];exact dZ _ _ _
 ·rw[h,h,h];intro h1 h2;cases h3:aR keys[x % n]! keys[z % n]! with
  |false=>rfl
  | true=>
   exfalso;by_cases e:keys[x % n]! = keys[y % n]!
   ·rw[e,h2]at h3;cases h3
   ·have:=dZ _ _ _ (fo _ _ h1 e) h3
    rw[this]at h2;cases h2
def wH{ev:Nat->List Value}{k:Nat}{w:World}(hg:GOKw w){blk off n:Nat}{d:Array Nat}{os:Array Obj}(hb:gN<=blk):GOKw (sortWorldK ev k w blk off n d os):=
 hg.mono fun b hlt=>nU ev k off n d os (H6 hlt hg.lt) (by omega)
def wv:∀args w,(callFunc 108 args).run Tryz.prog w= .ok (.enter 108 args) w:=enters_of Tryz.func108 (by kernel_rfl) rfl
def CZ(a b:bA)(u v:List Value)(hu:∃(x:ByteArray)(r:List Value),u= .string x:: r/\x.data.toList=a)(hv:∃(x:ByteArray)(r:List Value),v= .string x:: r/\x.data.toList=b)(lu:u.length=5)(lv:v.length=5)(W:World)(hg:GOKw W):
  Calls Tryz.prog 108 #[.agg u.toArray,.agg v.toArray] W fun e w'=>e= .returned (.int .i64 (wo a b))/\∃q os',w'=grow (W.drewN q) os':=by
 letI:Dr:=⟨True⟩
 have hs:∀(s:bA)(u:List Value),(∃(x:ByteArray)(r:List Value),u= .string x:: r/\x.data.toList=s)->u.length=5->VR (iy W) [] (.agg [.str s,.any,.any,.any,.any]) (.agg u.toArray):=by
  rintro s u ⟨x,r,rfl,hx⟩ hl;obtain⟨r1,r2,r3,r4,rfl⟩:∃r1 r2 r3 r4,r=[r1,r2,r3,r4]:=by
   match r,hl with
   |[r1,r2,r3,r4],_=>exact⟨r1,r2,r3,r4,rfl⟩
  simp only[VR];refine⟨_,rfl,?_⟩;simp only[aN,VR];exact⟨_,_,rfl,⟨x,rfl,hx⟩,_,_,rfl,trivial,_,_,rfl,trivial,_,_,rfl,trivial,_,_,rfl,trivial,rfl⟩
 have hv2:aN (iy W) [] [.agg [.str a,.any,.any,.any,.any],.agg [.str b,.any,.any,.any,.any]] [.agg u.toArray,.agg v.toArray]:=by
  simp only[aN];exact⟨_,_,rfl,hs a u hu lu,_,_,rfl,hs b v hv lv,rfl⟩
 have h:=(iF D.good D.hOther 108 [.agg [.str a,.any,.any,.any,.any],.agg [.str b,.any,.any,.any,.any]] [] (iy W) [] W _ (by rw[D.t108];simp[M.pure]) ⟨hg,fun b _ ho=>by obtain⟨l,_,_,h1,_⟩:=ho;simp at h1⟩ (fun _ _ _ h=>h) ⟨rfl,fun _=>.no,fun l cs hl=>by simp at hl⟩ hv2).1;rw[D.t108]at h;refine h.mono fun e w' hp=>?_;obtain⟨S',β',v,rfl,hv,L,_⟩:=hp;simp only[VR]at hv;subst hv;exact⟨rfl,L.grew trivial⟩
def Eo:∀w,(isAgg 56).run Tryz.prog w= .ok true w:=fun w=>by kernel_rfl
def DF:∀w,(Go.sizeOf 56).run Tryz.prog w= .ok 5 w:=fun w=>by kernel_rfl
def sU(w:World)(blk off cap:Nat)(keys:List bA)(ev:Nat->List Value)(_h0:0<keys.length)(hl:∀i,(ev i).length=5)(h1:∀i,∀v∈ev i,v.oneCell'=true)(hk:∀i,∃(x:ByteArray)(r:List Value),ev i= .string x:: r/\x.data.toList=keys[i % keys.length]!)(hg:GOKw w)(hb:gN<=blk)(hH:HoldsK ev 5 w blk off (Array.range keys.length))(hlt:blk<w.heap.size)(hsz:keys.length<4611686018427387904):
  Calls Tryz.prog 107 #[.slice (some ⟨blk,off,none⟩) keys.length cap,.func (.func 108) #[] #[]] w fun e w'=>e= .returned (.tuple #[])/\∃n os,w'=sortWorldK ev 5 w blk off n (iv keys).toArray os:=by
 have:=AnyQ.slices_SortFunc_eq G8 5 Eo DF ev hl h1 (EO keys keys.length) (GO keys keys.length) 108 #[] blk off cap (Array.range keys.length) w wv
  (fun m os dk _ x y=>CZ _ _ _ _ (hk x) (hk y) (hl x) (hl y) _ (wH hg hb)) hH hlt (by simpa using hsz)
 rw[Array.size_range]at this;refine this.mono ?_;rintro e w' ⟨he,n,os,hw⟩;refine⟨he,n,os,?_⟩;rw[hw];unfold iv;simp
def Dq(call:FuncId->List AV->M AV)(args:List AV)(h:Hp)(S:ar)(β:List bj)(w:World)(vs:List Value)(hr:f8 5 108 call args h≠.fail)(hg:mm β h w)(hw:Wf S w)(hh:cf S β w h)(hv:aN S β args vs):
  Calls Tryz.prog 107 vs.toArray w (dc none S β h w (f8 5 108 call args h)):=by
 have h0:=hr;unfold f8 at hr;split at hr
 ·rename_i g';cases hb:Nat.beq g' 108 with
  |false=>rw[hb]at hr;exact absurd rfl hr
  |true=>
   have e:f8 5 108 call [.sl [],.fn (.func g') [] []] h= .ok (.tup []) h:=by simp only[f8,hb,Hr]
   rw[e];simp only[aN,VR,HM]at hv;obtain⟨_,_,rfl,⟨a,cap,rfl,_⟩,v,_,rfl,_,rfl⟩:=hv;refine (AnyF.slices_SortFunc_none G8 a cap v w).mono ?_;rintro e' w' ⟨rfl,rfl⟩;exact ci hw hh (Below.refl _ _) nH (by simp only[VR,aN];exact⟨[],rfl,rfl⟩)
 ·rename_i g';cases hb:Nat.beq g' 108 with
  |false=>rw[hb]at hr;exact absurd rfl hr
  |true=>
   have e:f8 5 108 call [.hn,.fn (.func g') [] []] h= .ok (.tup []) h:=by simp only[f8,hb,Hr]
   rw[e];simp only[aN,VR]at hv;obtain⟨_,_,rfl,rfl,v,_,rfl,_,rfl⟩:=hv;refine (AnyF.slices_SortFunc_none G8 none 0 v w).mono ?_;rintro e' w' ⟨rfl,rfl⟩;exact ci hw hh (Below.refl _ _) nH (by simp only[VR,aN];exact⟨[],rfl,rfl⟩)
 ·exact zd call sU h0 hg hw hh hv
 ·exact absurd rfl hr
end Go.Proofs.YteemeakjlfnapaaGreatDoor
namespace Go.Proofs.YteemeakjlfnapaaGreatDoor
open Go Go.Av Go.RowKit
set_option maxRecDepth 100000
def Gp{α:Type}{f k:Nat}{x:α}{o:Option α}{y:α}(h:(bif Nat.beq f k then some x else o)=some y):(f=k/\x=y)\/o=some y:=by
 cases hb:Nat.beq f k with
 |true=>rw[hb]at h;exact .inl ⟨Hv hb,by simpa using h⟩
 |false=>rw[hb]at h;exact .inr h
def yx{α:Type}{f k:Nat}{x y:α}{o:Option α}{P:Prop}(h1:f=k->x=y->P)(h2:o=some y->P)(h:(bif Nat.beq f k then some x else o)=some y):P:=(Gp h).elim (fun h=>h1 h.1 h.2) h2
def good:GoodPg Tryz.prog pg where
 tok:=tok
 funcs:=rV
 other:=by
  intro f E hE call hC args h S β w vs hr hg hw hh hv;have h0:other f=some E:=hE;unfold other at h0;revert h0
  repeat' refine yx ?_ ?_
  all_goals first
   |(intro h0;cases h0;done)
   |(rintro rfl rfl;exact absurd rfl hr)
   |(rintro rfl rfl;exact⟨Fu call args h S β w vs hr hg hw hh hv,by kernel_rfl⟩)
   |(rintro rfl rfl;exact⟨Do call args h S β w vs hr hg hw hh hv,by kernel_rfl⟩)
   |(rintro rfl rfl;exact⟨Dq call args h S β w vs hr hg hw hh hv,by kernel_rfl⟩)
   |(rintro rfl rfl;exact⟨Ds call args h S β w vs hr hg hw hh hv,by kernel_rfl⟩)
   |(rintro rfl rfl;exact⟨Dt call args h S β w vs hr hg hw hh hv,by kernel_rfl⟩)
   |(rintro rfl rfl;exact⟨Du call args h S β w vs hr hg hw hh hv,by kernel_rfl⟩)
   |(rintro rfl rfl;exact⟨um call args h S β w vs hr hg hw hh hv,by kernel_rfl⟩)
   |(rintro rfl rfl;exact⟨Dp call args h S β w vs hr hg hw hh hv,by kernel_rfl⟩)
   |(rintro rfl rfl;exact⟨Dv call args h S β w vs hr hg hw hh hv,by kernel_rfl⟩)
   |(rintro rfl rfl;exact⟨Dw call args h S β w vs hr hg hw hh hv,by kernel_rfl⟩)
   |(rintro rfl rfl;exact⟨Dx call args h S β w vs hr hg hw hh hv,by kernel_rfl⟩)
 nw:=by
  intro f hf;have h0:(bif Nat.beq f 103 then true else false)=true:=hf;cases hb:Nat.beq f 103 with
  |true=>
   have:=Hv hb
   subst this;exact⟨_,rfl,oX T 54⟩
  |false=>rw[hb]at h0;cases h0
end Go.Proofs.YteemeakjlfnapaaGreatDoor
namespace Go.Proofs.YteemeakjlfnapaaGreatDoor
open Go Go.Av Go.ChangeShapes Go.WideShapes Go.ChangeAt Go.RowKit
set_option maxRecDepth 1000000
def Gz:ownKnob Tryz.prog.godebug=none:=by kernel_rfl
def star: "*" ++ "errors.errorString" = "*errors.errorString" :=by decide
def nQ(u:TypeId)(h:Tryz.prog.typeName? 3 u=some "*errors.errorString"):u=288:=
 typeName_ptr_named (nm:= "errors.errorString") (by rw[star];kernel_rfl) (by kernel_rfl) (by decide) u (by rw[star];exact h)
def Da{W:World}(hL:laidMetH Tryz.prog Rows.faceOrderRow.laid W)(hS:W.ShapedOpen Tryz.prog):GOKw W:=by
 have h0:laidMet Tryz.prog Rows.faceOrderRow.laid W:=hL;have h1:=h0.tail;have h2:=h1.tail;have h3:=h2.tail;have h4:=h3.tail;have hp:=Lib.tabIs_of_head (k:=.u64) (zs:=Lib.pow10Tab) (g:=3) (t:=278) (e:=214) (n:=20) (by kernel_rfl) (by kernel_rfl) (by kernel_rfl) (by kernel_rfl) (by kernel_rfl) (by kernel_rfl) h2;obtain⟨a0,s0,v0,_⟩:=laid_sentinel (g:=5) (ti:=106) (tp:=288) (te:=290) (ts:=9) h3 (by kernel_rfl) (by kernel_rfl) Tryz.underlying106 nQ Tryz.underlying288 Tryz.underlying290 rfl rfl Tryz.underlying9 (by kernel_rfl) (by kernel_rfl);obtain⟨a1,s1,v1,_⟩:=laid_sentinel (g:=4) (ti:=106) (tp:=288) (te:=290) (ts:=9) h4 (by kernel_rfl) (by kernel_rfl) Tryz.underlying106 nQ Tryz.underlying288 Tryz.underlying290 rfl rfl Tryz.underlying9 (by kernel_rfl) (by kernel_rfl);have hvar:∀ {name:String} {g:Nat} {cs:Array Value},Tryz.prog.globalNamed name=some g->W.var? Tryz.prog name=some cs->∃t fr,W.heap[g]? = some (.cells cs t fr):=by
  intro name g cs hn hv;unfold World.var? at hv;rw[hn]at hv;simp only[I9]at hv;split at hv
  ·rename_i c t fr hh;simp only[Ho]at hv;subst hv;exact⟨t,fr,hh⟩
  ·cases hv
 have hcell:∀ {g:Nat} {v:Value},(∃t fr,W.heap[g]? = some (.cells #[v] t fr))->W.cell? ⟨g,0,none⟩=some v:=by
  rintro g v ⟨t,fr,hh⟩;simp[World.cell?,hh]
 refine⟨?_,hvar (by kernel_rfl) hp,⟨_,_,hcell (hvar (by kernel_rfl) v1)⟩,⟨_,_,hcell (hvar (by kernel_rfl) v0)⟩⟩;exact cell_of_shapedOpen_int (zero:=#[.int .i64 0]) (t:=3) hS (Jg (by kernel_rfl)) (by kernel_rfl) rfl (by kernel_rfl) (by kernel_rfl) Tryz.underlying3
mutual
def ka:DataW Unit->List Value
 |.lit (.bool b)=>[.bool b]
 |.lit (.int k n)=>[.int k n]
 |.lit (.string s)=>[.string ⟨s.toArray⟩]
 |.agg ps=>yP ps
 |_=>[]
def yP:List (DataW Unit)->List Value
 |[]=>[]
 |d:: ds=>ka d++yP ds
end
abbrev GP:ByteArray:={ data:=#[105,110,118,97,108,105,100,32,115,121,110,116,97,120] }
abbrev GN:ByteArray:={ data:=#[118,97,108,117,101,32,111,117,116,32,111,102,32,114,97,110,103,101] }
noncomputable def low:Nat:=(World.holding Tryz.prog default ⟨#[],#[],[]⟩).heap.size
noncomputable def Ae:List (Option (Array Value)):=[none,none,none,some (ka Rows.laid_internal_strconv_uint64pow10).toArray,some #[.iface 288 (.pointer (some ⟨low,0,none⟩))],some #[.iface 288 (.pointer (some ⟨low+1,0,none⟩))],
 some (ka Rows.laid_math_bits_deBruijn32tab).toArray,some (ka Rows.laid_math_bits_deBruijn64tab).toArray]
def qE:List Obj->List (Option (Array Value))->List Obj
 |.cells _ t fr:: os,some c:: cs=>.cells c t fr:: qE os cs
 |o:: os,_:: cs=>o:: qE os cs
 |os,[]=>os
 |[],_=>[]
noncomputable def ll(os:Os):World:=
 let w0:=World.holding Tryz.prog os ⟨#[.cells #[.string GP] 290,.cells #[.string GN] 290],#[],[]⟩
 { w0 with heap:=(qE w0.heap.toList Ae).toArray }
def zk(os:Os)(args:Array Value):laidMet Tryz.prog Rows.faceOrderRow.laid ((ll os).forCall (fun _ _=>0) ⟨#[],args,[]⟩).memory:=
 laidMet_of_run3 8 (by kernel_rfl) (by kernel_rfl) (by kernel_rfl)
end Go.Proofs.YteemeakjlfnapaaGreatDoor
namespace Go.Proofs.YteemeakjlfnapaaGreatDoor
open Go Go.Av Go.Av.Ap Go.RowKit
set_option maxRecDepth 1000000
section
variable {H:Type} {enc:TypeId×Value->H} {W:World}
theorem kH:reachBytes=140737488351232:=rfl
theorem Ty.lim_mk{k:Int}{fs:List bi}(h2:fs.length<=140737488355328)(h3:∀v∈fs,v.2.Lim):(Ty.mk k fs).Lim:=fun j=>match j with
 |0=>trivial
 |j+1=>⟨h2,fun x hx=>h3 x hx j⟩
theorem nM{N:Nat}(h:Rd enc Tryz.prog W N 27 (fun v:Ty=>v.cells) Ty.Lim):Rd enc Tryz.prog W (N+1) 25 (fun l:List bi=>[az l]) (fun l=>l.length<=140737488355328/\∀v∈l,v.2.Lim):=
 (kG ((ji Tryz.underlying76 (by kernel_rfl) (cu (nN Tryz.underlying9) rfl (by kernel_rfl:_=1) (cu h rfl (by kernel_rfl:_=2) kF))).map (fun x=>((x.1,x.2.1):bi)) (cells':=fun f=>aa (aZ f)) (Ok':=fun f=>f.2.Lim) (fun x=>by simp[Ty.cells_eq]) (fun x h=>h.2.1))
  Tryz.underlying25 (by kernel_rfl:_=3) (by decide) (by kernel_rfl:_=48) (ev:=aZ) (kW fun v=>by rw[f5];rfl)).map id (fun l=>by simp[az,bZ]) (fun l h=>⟨by have:=h.1;rw[kH]at this;simp only[id];omega,h.2⟩)
theorem vH:∀N,Rd enc Tryz.prog W N 27 (fun v:Ty=>v.cells) Ty.Lim
 |0=>.zero
 | N+1=>(ji Tryz.underlying27 (by kernel_rfl) (cu (qH Tryz.underlying3) rfl (by kernel_rfl:_=1) (cu ((nM (vH N)).le (J2 N)) rfl (by kernel_rfl:_=1) kF))).map (fun x=>Ty.mk x.1 x.2.1)
   (fun x=>by simp[Ty.cells_eq,Ty.kind,Ty.fields]) (fun x h=>Ty.lim_mk h.2.1.1 h.2.1.2)
theorem DC(N:Nat):Rd enc Tryz.prog W N 54 (fun l:List Ty=>[dM l]) (fun l=>l.length<=140737488355328/\∀v∈l,v.Lim):=
 (kG (vH N) Tryz.underlying54 (by kernel_rfl:_=2) (by decide) (by kernel_rfl:_=32) (ev:=Ty.av) (kW fun v=>rfl)).map id (fun l=>by simp[dM]) (fun l h=>⟨by have:=h.1;rw[kH]at this;simp only[id];omega,h.2⟩)
theorem uq(N:Nat):Rd enc Tryz.prog W (N+1) 56 (fun s:Sig=>aa s.av) Sig.Lim:=
 (ji Tryz.underlying56 (by kernel_rfl) (cu (nN Tryz.underlying9) rfl (by kernel_rfl:_=1) (cu (DC N) rfl (by kernel_rfl:_=1) (cu (vH N) rfl (by kernel_rfl:_=2) (cu (qH Tryz.underlying3) rfl (by kernel_rfl:_=1) kF))))).map
  (fun x=>(⟨x.1,x.2.1,x.2.2.1,x.2.2.2.1⟩:Sig)) (fun x=>by simp[Ty.cells_eq]) (fun x h=>⟨h.2.1.1,h.2.1.2,h.2.2.1⟩)
end
end Go.Proofs.YteemeakjlfnapaaGreatDoor
namespace Go.Proofs.YteemeakjlfnapaaGreatDoor
open Go Go.Av Go.Av.Ap Go.RowKit
set_option maxRecDepth 1000000
section
variable {H:Type} {enc:TypeId×Value->H} {W:World}
theorem Bq(N:Nat):Rd enc Tryz.prog W N 35 (fun l:List bA=>[strs l]) (fun l=>l.length<=8796093022208):=
 (kG (nN Tryz.underlying9) Tryz.underlying35 (by kernel_rfl:_=1) (by decide) (by kernel_rfl:_=16) (yQ fun _=>rfl)).map id (fun _=>rfl) (fun l h=>by have:=h.1;rw[kH]at this;simp only[id];omega)
theorem Exp.lim_mk{o n:Int}{s m:bA}{ns:List bA}{es:List Exp}(h1:ns.length<=8796093022208)(h2:es.length<=140737488355328)(h3:∀v∈es,v.Lim):(Exp.mk o n s m ns es).Lim:=fun j=>match j with
 |0=>trivial
 |j+1=>⟨h1,h2,fun x hx=>h3 x hx j⟩
theorem uo{N:Nat}(h:Rd enc Tryz.prog W N 47 (fun v:Exp=>v.cells) Exp.Lim):Rd enc Tryz.prog W N 36 (fun l:List Exp=>[cm l]) (fun l=>l.length<=140737488355328/\∀v∈l,v.Lim):=
 (kG h Tryz.underlying36 (by kernel_rfl:_=6) (by decide) (by kernel_rfl:_=96) (ev:=Exp.av) (kW fun v=>rfl)).map id (fun l=>by simp[cm,fZ]) (fun l h=>⟨by have:=h.1;rw[kH]at this;simp only[id];omega,h.2⟩)
theorem zM:∀N,Rd enc Tryz.prog W N 47 (fun v:Exp=>v.cells) Exp.Lim
 |0=>.zero
 | N+1=>(ji Tryz.underlying47 (by kernel_rfl) (cu (qH Tryz.underlying3) rfl (by kernel_rfl:_=1) (cu (qH Tryz.underlying3) rfl (by kernel_rfl:_=1) (cu (nN Tryz.underlying9) rfl (by kernel_rfl:_=1) (cu (nN Tryz.underlying9) rfl (by kernel_rfl:_=1)
   (cu (Bq N) rfl (by kernel_rfl:_=1) (cu (uo (zM N)) rfl (by kernel_rfl:_=1) kF))))))).map (fun x=>Exp.mk x.1 x.2.1 x.2.2.1 x.2.2.2.1 x.2.2.2.2.1 x.2.2.2.2.2.1) (fun x=>by simp[Exp.cells_eq,Exp.op,Exp.n,Exp.s,Exp.m,Exp.names,Exp.args]) (fun x h=>Exp.lim_mk h.2.2.2.2.1 h.2.2.2.2.2.1.1 h.2.2.2.2.2.1.2)
theorem Bp(N:Nat):Rd enc Tryz.prog W N 25 (fun l:List bi=>[az l]) (fun l=>l.length<=140737488355328/\∀v∈l,v.2.Lim):=(nM (vH N)).le (J2 N)
end
end Go.Proofs.YteemeakjlfnapaaGreatDoor
namespace Go.Proofs.YteemeakjlfnapaaGreatDoor
open Go Go.Av Go.Av.Ap
set_option maxRecDepth 100000
@[simp] theorem EK(t:Nat)(a b:Int):ao T .geq t (.int .u8 a) (.int .u8 b)=some (.bool (decide (b<=a))):=rfl
@[simp] theorem EL(t:Nat)(a b:Int):ao T .leq t (.int .u8 a) (.int .u8 b)=some (.bool (decide (a<=b))):=rfl
@[simp] theorem vS(t:Nat)(a b:bA):ao T .leq t (.str a) (.str b)=some (.bool (aR a b||a== b)):=rfl
def Ba(f:AV)(F:bi->Bool)(l:List bi)(hb:l.length<=4611686018427387904)(hf:∀x∈l,bF (ah pg) f [aZ x]=M.pure (.bool (F x))):∀(n:Nat)(i:Int),l.length-i.toNat=n->0<=i->i<=l.length->
  aj (L189_0 (ah pg) aj) [az l,f,.int .i64 l.length,.int .i64 i]=M.pure (.int .i64 (bT F (l.drop i.toNat) i)):=by
 intro n
 induction n with
 |zero=>
  intro i hn hi hl;rw[FL189_0];simp only[L189_0];have h1:¬(i<(l.length:Int)):=by omega
  have h2:l.drop i.toNat=[]:=HQ (by omega);simp[h1,h2,bT]
 |succ n ih=>
  intro i hn hi hl;have h1:i<(l.length:Int):=by omega
  have hlt:i.toNat<l.length:=by omega
  have h2:bT F (l.drop i.toNat) i=if F l[i.toNat]=true then i else bT F (l.drop (i.toNat+1)) (i+1):=by rw[HK hlt];rfl
  have h3:=hf l[i.toNat] (HD hlt);have h4:=ih (i+1) (by omega) (by omega) (by omega);rw[show (i+1).toNat=i.toNat+1 by omega]at h4;rw[FL189_0];simp only[L189_0];simp (disch:=omega) [h1,dF,pR,h3,h2];cases F l[i.toNat]
  ·simpa using h4
  ·simp
def t189(f:AV)(F:bi->Bool)(l:List bi)(hb:l.length<=4611686018427387904)(hc:∀g,cl g f=f)(hf:∀x∈l,bF (ah pg) f [aZ x]=M.pure (.bool (F x))):ah pg 189 [az l,f]=M.pure (.int .i64 (bT F l 0)):=by
 rw[C189];simp[S189,hc,Ba f F l hb hf l.length 0 rfl (by omega) (by omega)]
def t131(f:AV)(F:bi->Bool)(l:List bi)(hb:l.length<=4611686018427387904)(hc:∀g,cl g f=f)(hf:∀x∈l,bF (ah pg) f [aZ x]=M.pure (.bool (F x))):ah pg 131 [az l,f]=M.pure (.bool (l.any F)):=by
 rw[C131];simp[S131,hc,t189 f F l hb hc hf,lj]
def Bc(f:AV)(F:Ty->Bool)(l:List Ty)(hb:l.length<=4611686018427387904)(hf:∀x∈l,bF (ah pg) f [Ty.av x]=M.pure (.bool (F x))):∀(n:Nat)(i:Int),l.length-i.toNat=n->0<=i->i<=l.length->
  aj (L204_0 (ah pg) aj) [dM l,f,.int .i64 l.length,.int .i64 i]=M.pure (.int .i64 (bT F (l.drop i.toNat) i)):=by
 intro n
 induction n with
 |zero=>
  intro i hn hi hl;rw[FL204_0];simp only[L204_0];have h1:¬(i<(l.length:Int)):=by omega
  have h2:l.drop i.toNat=[]:=HQ (by omega);simp[h1,h2,bT]
 |succ n ih=>
  intro i hn hi hl;have h1:i<(l.length:Int):=by omega
  have hlt:i.toNat<l.length:=by omega
  have h2:bT F (l.drop i.toNat) i=if F l[i.toNat]=true then i else bT F (l.drop (i.toNat+1)) (i+1):=by rw[HK hlt];rfl
  have h3:=hf l[i.toNat] (HD hlt);have h4:=ih (i+1) (by omega) (by omega) (by omega);rw[show (i+1).toNat=i.toNat+1 by omega]at h4;rw[FL204_0];simp only[L204_0];simp (disch:=omega) [h1,dF,mz,h3,h2];cases F l[i.toNat]
  ·simpa using h4
  ·simp
def t204(f:AV)(F:Ty->Bool)(l:List Ty)(hb:l.length<=4611686018427387904)(hc:∀g,cl g f=f)(hf:∀x∈l,bF (ah pg) f [Ty.av x]=M.pure (.bool (F x))):ah pg 204 [dM l,f]=M.pure (.int .i64 (bT F l 0)):=by
 rw[C204];simp[S204,hc,Bc f F l hb hf l.length 0 rfl (by omega) (by omega)]
def t148(f:AV)(F:Ty->Bool)(l:List Ty)(hb:l.length<=4611686018427387904)(hc:∀g,cl g f=f)(hf:∀x∈l,bF (ah pg) f [Ty.av x]=M.pure (.bool (F x))):ah pg 148 [dM l,f]=M.pure (.bool (l.any F)):=by
 rw[C148];simp[S148,hc,t204 f F l hb hc hf,lj]
def A6(f:AV)(F:Sig->Bool)(l:List Sig)(hb:l.length<=4611686018427387904)(hf:∀x∈l,bF (ah pg) f [Sig.av x]=M.pure (.bool (F x))):∀(n:Nat)(i:Int),l.length-i.toNat=n->0<=i->i<=l.length->
  aj (L101_0 (ah pg) aj) [sigs l,f,.int .i64 l.length,.int .i64 i]=M.pure (.int .i64 (bT F (l.drop i.toNat) i)):=by
 intro n
 induction n with
 |zero=>
  intro i hn hi hl;rw[FL101_0];simp only[L101_0];have h1:¬(i<(l.length:Int)):=by omega
  have h2:l.drop i.toNat=[]:=HQ (by omega);simp[h1,h2,bT]
 |succ n ih=>
  intro i hn hi hl;have h1:i<(l.length:Int):=by omega
  have hlt:i.toNat<l.length:=by omega
  have h2:bT F (l.drop i.toNat) i=if F l[i.toNat]=true then i else bT F (l.drop (i.toNat+1)) (i+1):=by rw[HK hlt];rfl
  have h3:=hf l[i.toNat] (HD hlt);have h4:=ih (i+1) (by omega) (by omega) (by omega);rw[show (i+1).toNat=i.toNat+1 by omega]at h4;rw[FL101_0];simp only[L101_0];simp (disch:=omega) [h1,dF,Ao,h3,h2];cases F l[i.toNat]
  ·simpa using h4
  ·simp
def t101(f:AV)(F:Sig->Bool)(l:List Sig)(hb:l.length<=4611686018427387904)(hc:∀g,cl g f=f)(hf:∀x∈l,bF (ah pg) f [Sig.av x]=M.pure (.bool (F x))):ah pg 101 [sigs l,f]=M.pure (.int .i64 (bT F l 0)):=by
 rw[C101];simp[S101,hc,A6 f F l hb hf l.length 0 rfl (by omega) (by omega)]
def t199(b:UInt8):ah pg 199 [.int .u8 b.toNat]=M.pure (.bool (mu b)):=by
 rw[C199];have e:decide ((b.toNat:Int)<=122)=decide (b.toNat<=122):=IK.2 (by omega);have e2:decide (97<=(b.toNat:Int))=decide (97<=b.toNat):=IK.2 (by omega);simp[S199,mu,e,e2]
def t202(b:UInt8):ah pg 202 [.int .u8 b.toNat]=M.pure (.bool (tO b)):=by
 rw[C202];have e:decide ((b.toNat:Int)<=57)=decide (b.toNat<=57):=IK.2 (by omega);have e2:decide (48<=(b.toNat:Int))=decide (48<=b.toNat):=IK.2 (by omega);simp[S202,tO,e,e2]
def t201(b:UInt8):ah pg 201 [.int .u8 b.toNat]=M.pure (.bool (mI b)):=by
 rw[C201];simp[S201,t199,t202,mI]
theorem Cd{s:bA}{i:Nat}(h:i<s.length):eY T 9 (.str s) (.int .i64 (i:Int))=some (.int .u8 (s[i].toNat:Int)):=by
 have e1:eY T 9 (.str s) (.int .i64 (i:Int))=(if(i:Int)<0 then none else s[(i:Int).toNat]?.map fun b=>.int .u8 b.toNat):=rfl;rw[e1,if_neg (by omega),HH,HF h];rfl
def Bb(F:UInt8->Bool)(f:AV)(s:bA)(hb:s.length<=4611686018427387904)(hf:∀b:UInt8,bF (ah pg) f [.int .u8 b.toNat]=M.pure (.bool (F b))):∀(n i:Nat),s.length-i=n->i<=s.length->
  aj (L200_0 (ah pg) aj) [.str s,f,.int .i64 i]=M.pure (.int .i64 ((i+((s.drop i).takeWhile F).length:Nat):Int)):=by
 intro n
 induction n with
 |zero=>
  intro i hn hi;rw[FL200_0];simp only[L200_0];have h1:¬((i:Int)<(s.length:Int)):=by omega
  have h2:s.drop i=[]:=HQ (by omega);simp[h1,h2]
 | succ n ih=>
  intro i hn hi;have hlt:i<s.length:=by omega
  have h1:(i:Int)<(s.length:Int):=by omega
  have h2:s.drop i=s[i]:: s.drop (i+1):=HK hlt;have h4:=ih (i+1) (by omega) (by omega);have hw:IntKind.i64.wrap ((i:Int)+1)=((i+1:Nat):Int):=be (by omega);rw[FL200_0];simp only[L200_0,a7,bc,F7,aG,bJ,h1,Iq,eD,Cd hlt,hf,aV,ib,aY,d7,hw,h4,h2,List.takeWhile_cons];cases F s[i]
  ·simp
  ·rw[Ht rfl,Ht rfl];congr 3;simp;omega
def t146(s:bA):ah pg 146 [.str s]=M.pure (.bool (mh s)):=by
 rw[C146];by_cases hs:s=[]
 ·subst hs;simp[S146,mh]
 ·have hs':(s== [])=false:=HB.2 hs;have hpos:0<s.length:=Ja.2 hs;have h0:=Cd (s:=s) (i:=0) hpos;have hd:s[0]=s.headD 0:=by cases s with|nil=>exact absurd rfl hs|cons c s=>rfl
  rw[hd]at h0;simp at h0;by_cases hl:s.length<=20
  ·have h1:=Bb mI (.fn (.func 201) [] []) s (by omega) (fun b=>t201 b) s.length 0 (by simp) (by simp);have hsp:ah pg 200 [.str s,.fn (.func 201) [] []]=M.pure (.int .i64 (((s.takeWhile mI).length:Nat):Int)):=by
    rw[C200];simp only[S200,cl,dy];rw[show (AV.int .i64 0)=AV.int .i64 ((0:Nat):Int)from rfl,h1];simp
   have e1:decide (20<(s.length:Int))=false:=by rw[IZ];omega
   have e3:decide (20<s.length)=false:=by rw[IZ];omega
   have e4:decide (s.length<=20)=true:=by simpa using hl
   simp[S146,hs',h0,t199,hsp,e1,e3,e4,mh]
  ·have e1:decide (20<(s.length:Int))=true:=by rw[Hy];omega
   have e3:decide (20<s.length)=true:=by rw[Hy];omega
   have e4:decide (s.length<=20)=false:=by simpa using hl
   simp[S146,hs',h0,t199,e1,e3,e4,mh]
def t147(s:bA):ah pg 147 [.str jj,.str s]=M.pure (.bool (Lib.contains jj s)):=by
 rw[eq hOther (E:=gF) rfl];rfl
theorem vQ(t:Nat)(a b:bA):ao T .add t (.str a) (.str b)=if a.length+b.length<=4611686018427387904 then some (.str (a++b))else none:=rfl
def t76(s:bA):ah pg 76 [.str s]=M.pure (.bool (bY s)):=by
 rw[C76];have h1:=t146 s;unfold bY;cases hw:mh s with
 |false=>
  rw[hw]at h1;simp[S76,h1]
 |true=>
  have hl:=xg hw;rw[hw]at h1;have h2:=t147 ([32]++s++[32]);unfold jj at h2;have e1:ao T .add 9 (.str [32]) (.str s)=some (.str ([32]++s)):=by rw[vQ,Ht (by simp;omega)]
  have e2:ao T .add 9 (.str ([32]++s)) (.str [32])=some (.str ([32]++s++[32])):=by rw[vQ,Ht (by simp;omega)]
  simp only[S76,mR,h1,aV,eD,e1,aG,e2,h2,il,a7,ib,jd,IA];rfl
def A2{t:Ty}(h:t.Lim)(k:Nat)(hk:k<t.fields.length):(t.fields[k]!).2.Lim:=by
 rw[HP t.fields k hk];exact h.kid (HD hk)
theorem t116:∀(d:Nat),d<=4->∀(t:Ty),t.Lim->ah pg 116 [t.av,.int .i64 d]=M.pure (.bool (b9 d t))
 |0,_,t,_=>by
  rw[C116];simp[S116,b9]
 | d + 1,hd,t,ht=>by
  have ih:=t116 d (by omega);have hlen:=ht.len;have hd1:IntKind.i64.wrap ((((d+1:Nat)):Int)-1)=(d:Int):=jl (by omega);have hloop:=uW (F:=L116_0 (ah pg) aj) (FL116_0 (ah pg)) (fun k=>[.int .i64 ((d+1:Nat):Int),.ip (aa t.av),az t.fields,.int .i64 t.fields.length,.int .i64 k]) t.fields.length
   (fun k=>(bY (t.fields[k]!).1&&b9 d (t.fields[k]!).2)&&(decide (k=0)||di (t.fields[k-1]!).1 (t.fields[k]!).1))
   (by simp[L116_0]) (fun k hk=>by
    have h1:(k:Int)<(t.fields.length:Int):=by omega
    have hix:=pR (l:=t.fields) (n:=(k:Int)) (by omega) h1;rw[HH]at hix;have hm:t.fields[k]! ∈t.fields:=by rw[HP t.fields k hk];exact HD hk
    have h2:=t76 (t.fields[k]!).1;have h3:=ih (t.fields[k]!).2 (A2 ht k hk);have hw:IntKind.i64.wrap ((k:Int)+1)=(k:Int)+1:=by rw[be (by omega)];simp
    have hd0:IntKind.i64.wrap (d:Int)=(d:Int):=Af (by omega);generalize t.fields[k]! = f at hix h2 h3 hm |-;rcases Il k with hk0|hk0
    ·subst hk0;have hix0:ak T 25 (az t.fields) (.int .i64 0)=some (.ip (aa (aZ f))):=hix;have hw0:IntKind.i64.wrap 1=1:=rfl;simp[L116_0,hix0,h2,h3,hw0,hd0,hk];cases bY f.1<;>cases b9 d f.2<;>simp
    ·have hp:IntKind.i64.wrap ((k:Int)-1)=((k-1:Nat):Int):=by
      rw[dF (by omega) (by omega)];omega
     have h4:((k-1:Nat):Int)<(t.fields.length:Int):=by omega
     have hix2:=pR (l:=t.fields) (n:=((k-1:Nat):Int)) (by omega) h4;rw[HH]at hix2;generalize t.fields[k-1]! = g at hix2 |-;have hk1:¬k=0:=by omega
     simp[L116_0,h1,hix,h2,h3,hw,hd0,hp,hix2,hk0,hk1,hk];cases bY f.1<;>simp;cases h5:aR f.1 g.1<;>cases b9 d f.2<;>by_cases h6:f.1=g.1<;>simp[di,h5,h6]) 0 (H5 _)
  have hall:((List.range' 0 t.fields.length).all fun k=>(bY (t.fields[k]!).1&&b9 d (t.fields[k]!).2)&&(decide (k=0)||di (t.fields[k-1]!).1 (t.fields[k]!).1))=(t.fields.all (fun f=>bY f.1&&b9 d f.2)&&gE (fun a b=>di a.1 b.1) t.fields):=
   uL (fun f:bi=>bY f.1&&b9 d f.2) (fun a b=>di a.1 b.1) t.fields
  rw[JV,hall]at hloop;rw[C116];have h0:¬((d:Int)+1=0):=by omega
  have hl2:aj (L116_0 (ah pg) aj) [.int .i64 ((d:Int)+1),.ip [.int .i64 t.kind,az t.fields],az t.fields,.int .i64 t.fields.length,.int .i64 0]=M.pure (.bool (t.fields.all (fun f=>bY f.1&&b9 d f.2)&&gE (fun a b=>di a.1 b.1) t.fields)):=by
   simpa using hloop
  have hR:b9 (d+1) t=if((t.kind<0\/3<=t.kind)\/8<(t.fields.length:Int))\/¬t.kind=2/\0<t.fields.length then false else(t.fields.all (fun f=>bY f.1&&b9 d f.2)&&gE (fun a b=>di a.1 b.1) t.fields):=by
   rw[dp];generalize (t.fields.all (fun f=>bY f.1&&b9 d f.2)&&gE (fun a b=>di a.1 b.1) t.fields)=q;generalize t.fields.length=n;generalize t.kind=k;split
   ·rename_i hc;cases q
    ·simp
    ·simp only[Jv,JO,IZ,I4,HB];rcases hc with((h|h)|h)|h
     ·exact .inl (.inl (.inl (by omega)))
     ·exact .inl (.inl (.inr (by omega)))
     ·exact .inl (.inr (by omega))
     ·exact .inr ⟨h.1,by omega⟩
   ·rename_i hc;have e1:decide (0<=k)=true:=by rw[Hy];omega
    have e2:decide (k<3)=true:=by rw[Hy];omega
    have e3:decide (n<=8)=true:=by rw[Hy];omega
    have e4:(k== 2||n== 0)=true:=by
     rw[It,HX,HX];omega
    rw[e1,e2,e3,e4];simp
  rw[hR];simp[S116,h0,hl2]
def t47(t:Ty)(ht:t.Lim):ah pg 47 [t.av]=M.pure (.bool (aH t)):=by
 rw[C47];have:ah pg 116 [t.av,.int .i64 4]=M.pure (.bool (b9 4 t)):=t116 4 (by omega) t ht;simp[S47,this]
def t73(t:Ty)(ht:t.Lim):ah pg 73 [t.av]=M.pure (.bool (aH t)):=by
 rw[C73];simp[S73,t47 t ht]
theorem lW:(l:List bi)->eX (dB l)=some (l.map fun f=>(f.1,f.2.kind,dB f.2.fields))
 |[]=>rfl
 |f:: l=>by simp[dB,eX,lW l,f5,rQ,az]
theorem pm{α β:Type}(g:α->β)(p:β->Bool):(l:List α)->aJ p (l.map g)=(aJ (fun x=>p (g x)) l).map g
 |[]=>rfl
 |x:: l=>by
  simp only[H3,aJ,pm g p l];cases aJ (fun x=>p (g x)) l with
  |some y=>rfl
  |none=>cases p (g x)<;>rfl
def ty0:Ty:=.mk 0 []
def t181(l:List bi)(hl:l.length<=1000000000)(s:bA):ah pg 181 [az l,.str s]=M.pure (.tup [((aJ (fun f=>f.1== s) l).map (·.2)).getD ty0 |>.av,.bool (aJ (fun f=>f.1== s) l).isSome]):=by
 rw[eq hOther (E:=je) rfl];unfold je az;simp only[lW,II,hl,Iq,Hr,ug,pm];cases aJ (fun f:bi=>f.1== s) l with
 |none=>rfl
 |some f=>simp[af,M.pure,Ty.av,Ty.cells_eq,az];rfl
def Ty.Short:Nat->Ty->Prop
 |0,_=>True
 |n+1,t=>t.fields.length<=1000000000/\∀f∈t.fields,Ty.Short n f.2
theorem fQ:∀(d:Nat)(t:Ty),b9 d t=true->∀n,Ty.Short n t
 |0,t,h,_=>by cases h
 |d+1,t,h,0=>trivial
 |d+1,t,h,n+1=>by
  rw[dp]at h;simp only[Hq,Hy,Hx]at h;exact⟨by omega,fun f hf=>fQ d f.2 (h.2.1 f hf).2 n⟩
theorem fR{α:Type}{p:α->Bool}:{l:List α} ->{x:α} ->aJ p l=some x->x∈l/\p x=true
 |[],x,h=>by cases h
 | y:: l,x,h=>by
  simp only[aJ]at h;cases h2:aJ p l with
  |some z=>
   rw[h2]at h;cases h
   have:=fR h2
   exact⟨Ij _ this.1,this.2⟩
  |none=>
   rw[h2]at h;cases h3:p y with
   |true=>rw[h3]at h;cases h;exact⟨Ic,h3⟩
   |false=>rw[h3]at h;cases h
def l8{α:Type}(P:α->Bool)(l:List α):(!l.any fun x=>!P x)=l.all P:=by simp[Km]
theorem t125:∀(n:Nat)(b a:Ty),Ty.Short n a->Ty.Short n b->b9 n b=true->ah pg 125 [a.av,b.av]=M.pure (.bool (aO a b))
 |0,b,a,_,_,h=>by cases h
 | n+1,b,a,ha,hb,h=>by
  have ih:=t125 n;rw[dp]at h;simp only[Hq,Hy,Hx]at h;have hf:∀f∈b.fields,bF (ah pg) (.fn (.func 186) [] [.ip (aa a.av)]) [aZ f]=M.pure (.bool (!(match aJ (fun z=>z.1== f.1) a.fields with|some z=>aO z.2 f.2|none=>false))):=by
   intro f hfm;show ah pg 186 [aZ f,.ip (aa a.av)]=_;have h1:=t181 a.fields ha.1 f.1;rw[C186];cases hl:aJ (fun z:bi=>z.1== f.1) a.fields with
   |none=>
    rw[hl]at h1;simp[S186,h1,cl,dy]
   |some z=>
    rw[hl]at h1;have h2:=ih f.2 z.2 (ha.2 z (fR hl).1) (hb.2 f hfm) (h.2.1 f hfm).2;simp[S186,h1,cl,dy,h2]
  have h2:=t131 (.fn (.func 186) [] [.ip (aa a.av)]) _ b.fields (by have:=hb.1;omega) (fun g=>by simp[cl,dy]) hf;rw[C125,i8];simp at h2;simp[S125,h2];rw[l8];rfl
def t56(a b:Ty)(ha:a.Lim)(hb:b.Lim):ah pg 56 [a.av,b.av]=M.pure (.bool (jp a b)):=by
 rw[C56];unfold jp;have h1:=t73 a ha;have h2:=t73 b hb;cases r1:aH a with
 |false=>
  rw[r1]at h1;simp[S56,h1]
 | true=>
  cases r2:aH b with
  |false=>
   rw[r1]at h1;rw[r2]at h2;simp[S56,h1,h2]
  |true=>
   rw[r1]at h1;rw[r2]at h2;have h3:=t125 4 b a (fQ 4 a r1 4) (fQ 4 b r2 4) r2;simp[S56,h1,h2,h3]
def t111(f:AV)(F:Ty->Ty->Bool)(a b:List Ty)(hb:a.length<=4611686018427387904)(hc:∀g,cl g f=f)(hf:∀x∈a,∀y∈b,bF (ah pg) f [x.av,y.av]=M.pure (.bool (F x y))):ah pg 111 [dM a,dM b,f]=M.pure (.bool (cd F a b)):=by
 rw[C111];by_cases h:a.length=b.length
 ·have hloop:=uW (FL111_0 (ah pg)) (fun k=>[dM b,f,dM a,.int .i64 a.length,.int .i64 (k:Int)]) a.length (fun k=>F a[k]! b[k]!)
   (by simp[L111_0]) (fun k hk=>by
    have h1:(k:Int)<(a.length:Int):=by omega
    have h1b:(k:Int)<(b.length:Int):=by omega
    have hixa:=mz (l:=a) (n:=(k:Int)) (by omega) h1;have hixb:=mz (l:=b) (n:=(k:Int)) (by omega) h1b;rw[HH]at hixa hixb;have hma:a[k]! ∈a:=by rw[HP a k hk];exact HD hk
    have hmb:b[k]! ∈b:=by rw[HP b k (by omega)];exact HD (by omega)
    have h3:=hf _ hma _ hmb;have hw:IntKind.i64.wrap ((k:Int)+1)=(k:Int)+1:=by rw[be (by omega)];simp
    generalize a[k]! = x at hixa h3 |-;generalize b[k]! = y at hixb h3 |-;simp[L111_0,hk,hixa,hixb,h3,hw];cases F x y<;>simp) 0 (H5 _)
  rw[JV,mH F a b h]at hloop;simp[S111,h,hc]at hloop |-;simp[hloop]
 ·have h2:=lM F a b h;have h3:(a.length != b.length)=true:=by simp[h]
  simp[S111,h3,hc,h2]
@[simp] theorem CM(t:Nat)(a b:Int):ao T .andNot t (.int .i64 a) (.int .i64 b)=some (.int .i64 (cS a b)):=rfl
def t44(a b:Sig)(ha:a.Lim)(hb:b.Lim):ah pg 44 [a.av,b.av]=M.pure (.bool (sZ a b)):=by
 rw[C44];have h1:=t111 (.fn (.func 56) [] []) jp b.params a.params (by have:=hb.plen;omega) (fun g=>rfl) (fun x hx y hy=>t56 x y (hb.ptys x hx) (ha.ptys y hy));have h2:=t56 a.result b.result ha.result hb.result;unfold sZ;cases r1:cd jp b.params a.params with
 |false=>
  rw[r1]at h1;simp[S44,h1]
 | true=>
  cases r2:jp a.result b.result with
  |false=>
   rw[r1]at h1;rw[r2]at h2;simp[S44,h1,h2]
  |true=>
   rw[r1]at h1;rw[r2]at h2;simp[S44,h1,h2]
def t149(t:Ty)(ht:t.Lim):ah pg 149 [t.av]=M.pure (.bool (!(aH t))):=by
 rw[C149];simp[S149,t47 t ht]
def t77(s:Sig)(hs:s.Lim):ah pg 77 [s.av]=M.pure (.bool (qI s)):=by
 rw[C77];have h1:=t76 s.name;have h2:=t47 s.result hs.result;have h3:=t148 (.fn (.func 149) [] []) (fun t=>!(aH t)) s.params (by have:=hs.plen;omega) (fun g=>rfl) (fun x hx=>t149 x (hs.ptys x hx));unfold qI;rw[<- l8 aH s.params];generalize (s.params.any fun x=>!aH x)=q at h3 |-;by_cases g1:bY s.name=true
 ·rw [g1]at h1;by_cases g2:s.params.length<=6
  ·have g2':¬(6<(s.params.length:Int)):=by omega
   have g2n:¬(6<s.params.length):=by omega
   by_cases g3:cS s.effects 15=0
   ·by_cases g4:aH s.result=true
    ·rw[g4]at h2;simp[S77,h1,h2,h3,g1,g2,g2',g2n,g3,g4]
    ·rw[JM]at g4;rw[g4]at h2;simp[S77,h1,h2,h3,g1,g2,g2',g2n,g3,g4]
   ·have g3':(cS s.effects 15== 0)=false:=HB.2 g3;simp[S77,h1,h2,h3,g1,g2,g2',g2n,g3,g3']
  ·have g2':6<(s.params.length:Int):=by omega
   have g2n:6<s.params.length:=by omega
   simp[S77,h1,h2,h3,g1,g2,g2',g2n]
 ·rw[JM]at g1;rw[g1]at h1;simp[S77,h1,h2,h3,g1]
def C8{F:(List AV->M AV)->List AV->M AV}(hF:∀vs,aj F vs=F (aj F) vs)(st:Nat->List AV)(n:Nat)(hend:∃b,F (aj F) (st n)=M.pure (.bool b))(hstep:∀k,k<n->(∃b,F (aj F) (st k)=M.pure (.bool b))\/F (aj F) (st k)=aj F (st (k+1))):
  ∀k,k<=n->∃b,aj F (st k)=M.pure (.bool b):=by
 have key:∀r k,n-k=r->k<=n->∃b,aj F (st k)=M.pure (.bool b):=by
  intro r
  induction r with
  |zero=>
   intro k hr hk;obtain rfl:k=n:=by omega
   rw[hF];exact hend
  | succ r ih=>
   intro k hr hk;rw[hF];rcases hstep k (by omega)with h|h
   ·exact h
   ·rw[h];exact ih (k+1) (by omega) (by omega)
 exact fun k hk=>key (n-k) k rfl hk
def xb{t:Ty}{f:bi}(h:f∈t.fields):SizeOf.sizeOf f.2<SizeOf.sizeOf t:=by
 cases t with
 |mk k fs=>
  have h1:=Jr (show f∈fs from h);obtain⟨a,b⟩:=f;show SizeOf.sizeOf b<_;simp at h1 |-;omega
theorem B8:∀(d:Nat),d<=6->∀(t:Ty),t.Lim->∀most:Int,0<=most->most<=1000->∃r:Int,ah pg 130 [t.av,.int .i64 most,.int .i64 d]=M.pure (.int .i64 r)/\1<=r/\r<=most+1
 |0,_,t,ht,most,h0,h1=>by
  have w1:IntKind.i64.wrap (most+1)=most+1:=dF (by omega) (by omega);refine⟨most+1,?_,by omega,by omega⟩;rw[C130];simp[S130,w1]
 | d + 1,hd,t,ht,most,h0,h1=>by
  have hlen:=ht.len;have hd1:IntKind.i64.wrap (((d+1:Nat):Int)-1)=(d:Int):=jl (by omega);have hl:∀(k i:Nat),t.fields.length-i=k->i<=t.fields.length->∀m:Int,1<=m->m<=most+1->∃r:Int,aj (L130_0 (ah pg) aj) [.int .i64 most,.int .i64 ((d+1:Nat):Int),.ip (aa t.av),.int .i64 m,.int .i64 i]=M.pure (.int .i64 r)/\1<=r/\r<=most+1:=by
   intro k
   induction k with
   |zero=>
    intro i hk hi m hm1 hm2;rw[FL130_0];have h1:¬((i:Int)<(t.fields.length:Int)):=by omega
    exact⟨m,by simp[L130_0,h1],hm1,hm2⟩
   | succ k ihk=>
    intro i hk hi m hm1 hm2;rw[FL130_0];have hlt:i<t.fields.length:=by omega
    have h1':(i:Int)<(t.fields.length:Int):=by omega
    by_cases hm:m<=most
    ·have hix:=pR (l:=t.fields) (n:=(i:Int)) (by omega) h1';rw[HH,HP t.fields i hlt]at hix;have hm':=HD hlt;generalize t.fields[i]=f at hix hm';obtain⟨r,e1,e2,e3⟩:=B8 d (by omega) f.2 (ht.kid hm') (most-m) (by omega) (by omega);obtain⟨r2,g1,g2,g3⟩:=ihk (i+1) (by omega) (by omega) (m+r) (by omega) (by omega);have w1:IntKind.i64.wrap (most-m)=most-m:=dF (by omega) (by omega);have w2:IntKind.i64.wrap (m+r)=m+r:=dF (by omega) (by omega);have w3:IntKind.i64.wrap ((i:Int)+1)=((i+1:Nat):Int):=be (by omega);refine⟨r2,?_,g2,g3⟩;rw[<- g1];simp only[L130_0,a7,bc,bm,FA27_1,aG,Iw,Ia,LD25,xn,bJ,jZ,h1',hm,Iq,eD,aV,ib,aY,H7,hix,cF,FA76_1,LD27,HG,HM,HJ,Nat.reduceAdd,Hu,HY,H9,bW,qa,w1,hd1,e1,d7,w2,w3]
    ·exact⟨m,by simp[L130_0,h1',hm],hm1,hm2⟩
  obtain⟨r,e1,e2,e3⟩:=hl t.fields.length 0 rfl (by omega) 1 (by omega) (by omega);refine⟨r,?_,e2,e3⟩;rw[C130];have e1':aj (L130_0 (ah pg) aj) [.int .i64 most,.int .i64 ((d+1:Nat):Int),.ip (aa t.av),.int .i64 1,.int .i64 0]=M.pure (.int .i64 r):=e1;have hge:¬((((d+1:Nat):Int))<1):=by omega
  simp only[S130,mS,yJ,bJ,aG,hge,Ji,aY,HT,Iu,e1',r9]
def C7(t:Ty)(ht:t.Lim):∃b,ah pg 53 [t.av]=M.pure (.bool b):=by
 obtain⟨r,e1,e2,e3⟩:=B8 6 (by omega) t ht 40 (by omega) (by omega);have e1':ah pg 130 [t.av,.int .i64 40,.int .i64 6]=M.pure (.int .i64 r):=e1;rw[C53];exact⟨decide (r<=40),by simp[S53,e1']⟩
def C6(s:Sig)(hs:s.Lim):∃b,ah pg 32 [s.av]=M.pure (.bool b):=by
 have hlen:=hs.plen;obtain⟨br,hbr⟩:=C7 s.result hs.result;have hfin:∃b,(ae (ae (af (ao T BinOp.leq 3 (.int .i64 s.params.length) (AV.int IntKind.i64 8))) fun v19=>ae (aw v19 true 1 (M.pure [.bool br])) fun v23=>ae (af (aI v19 (nth v23 0) (AV.bool false))) fun v24=>M.pure v24) M.pure:M AV)=M.pure (.bool b):=by
  cases br<;>by_cases h:(s.params.length:Int)<=8<;>simp[h]
 obtain⟨b,hb⟩:=C8 (FL32_0 (ah pg)) (fun k=>[.ip (aa s.av),.int .i64 (k:Int)]) s.params.length (by
  cases br<;>by_cases h:(s.params.length:Int)<=8<;>simp[L32_0,hbr,h]) (fun k hk=>by
  have h1:(k:Int)<(s.params.length:Int):=by omega
  have hix:=mz (l:=s.params) (n:=(k:Int)) (by omega) h1;rw[HH,HP s.params k hk]at hix;have hm':=HD hk;generalize s.params[k]=t at hix hm';have w3:IntKind.i64.wrap ((k:Int)+1)=(k:Int)+1:=by rw[be (by omega)];simp
  obtain⟨b,hb⟩:=C7 t (hs.ptys t hm');by_cases h9:(k:Int)<9
  ·have h9':k<9:=by omega
   cases b with
   |false=>exact .inl ⟨false,by simp[L32_0,h1,hk,hix,hb,h9,h9']⟩
   |true=>exact .inr (by simp[L32_0,h1,hk,hix,hb,h9,h9',w3])
  ·have h9':¬k<9:=by omega
   refine .inl ?_;cases br<;>by_cases h:(s.params.length:Int)<=8<;>simp[L32_0,h1,hk,h9,h9',hbr,h]) 0 (H5 _)
 refine⟨b,?_⟩;rw[C32];have hb':aj (L32_0 (ah pg) aj) [.ip (aa s.av),.int .i64 0]=M.pure (.bool b):=hb;simp only[S32,qd,hb',jd]
theorem B7:∀(d:Nat),d<=14->∀(e:Exp),e.Lim->∀most:Int,0<=most->most<=1000->∃r:Int,ah pg 129 [e.av,.int .i64 most,.int .i64 d]=M.pure (.int .i64 r)/\1<=r/\r<=most+1
 |0,_,e,he,most,h0,h1=>by
  have w1:IntKind.i64.wrap (most+1)=most+1:=dF (by omega) (by omega);refine⟨most+1,?_,by omega,by omega⟩;rw[C129];simp[S129,w1]
 | d + 1,hd,e,he,most,h0,h1=>by
  have hlen:=he.len;have hd1:IntKind.i64.wrap (((d+1:Nat):Int)-1)=(d:Int):=jl (by omega);have hl:∀(k i:Nat),e.args.length-i=k->i<=e.args.length->∀m:Int,1<=m->m<=most+1->∃r:Int,aj (L129_0 (ah pg) aj) [.int .i64 most,.int .i64 ((d+1:Nat):Int),.ip (aa e.av),.int .i64 m,.int .i64 i]=M.pure (.int .i64 r)/\1<=r/\r<=most+1:=by
   intro k
   induction k with
   |zero=>
    intro i hk hi m hm1 hm2;rw[FL129_0];have h1:¬((i:Int)<(e.args.length:Int)):=by omega
    exact⟨m,by simp[L129_0,h1],hm1,hm2⟩
   | succ k ihk=>
    intro i hk hi m hm1 hm2;rw[FL129_0];have hlt:i<e.args.length:=by omega
    have h1':(i:Int)<(e.args.length:Int):=by omega
    by_cases hm:m<=most
    ·have hix:=qY (l:=e.args) (n:=(i:Int)) (by omega) h1';rw[HH,HP e.args i hlt]at hix;have hm':=HD hlt;generalize e.args[i]=f at hix hm';obtain⟨r,e1,e2,e3⟩:=B7 d (by omega) f (he.kid hm') (most-m) (by omega) (by omega);obtain⟨r2,g1,g2,g3⟩:=ihk (i+1) (by omega) (by omega) (m+r) (by omega) (by omega);have w1:IntKind.i64.wrap (most-m)=most-m:=dF (by omega) (by omega);have w2:IntKind.i64.wrap (m+r)=m+r:=dF (by omega) (by omega);have w3:IntKind.i64.wrap ((i:Int)+1)=((i+1:Nat):Int):=be (by omega);refine⟨r2,?_,g2,g3⟩;rw[<- g1];simp only[L129_0,a7,bc,bp,FA47_5,aG,Iw,Ia,LD36,xp,bJ,jZ,h1',hm,Iq,eD,aV,ib,aY,H7,hix,LD47,HG,HM,HJ,Nat.reduceAdd,Hu,HY,H9,dX,qa,w1,hd1,e1,d7,w2,w3]
    ·exact⟨m,by simp[L129_0,h1',hm],hm1,hm2⟩
  have hge:¬((((d+1:Nat):Int))<1):=by omega
  have hge':¬((d:Int)+1<1):=by omega
  have w1:IntKind.i64.wrap (most+1)=most+1:=dF (by omega) (by omega);by_cases h10:10<(e.names.length:Int)
  ·refine⟨most+1,?_,by omega,by omega⟩;have h10':10<e.names.length:=by omega
   rw[C129];simp[S129,hge',h10,h10',w1]
  ·obtain⟨r,e1,e2,e3⟩:=hl e.args.length 0 rfl (by omega) 1 (by omega) (by omega);refine⟨r,?_,e2,e3⟩;have h10':¬10<e.names.length:=by omega
   have e1':aj (L129_0 (ah pg) aj) [.int .i64 most,.int .i64 ((d:Int)+1),.ip [.int .i64 e.op,.int .i64 e.n,.str e.s,.str e.m,strs e.names,cm e.args],.int .i64 1,.int .i64 0]=M.pure (.int .i64 r):=by
    simp only[bp]at e1;exact e1
   rw[C129];simp[S129,hge',h10,h10',e1']
def Gt(e:Exp)(he:e.Lim):∃b,ah pg 52 [e.av]=M.pure (.bool b):=by
 obtain⟨r,e1,e2,e3⟩:=B7 14 (by omega) e he 60 (by omega) (by omega);have e1':ah pg 129 [e.av,.int .i64 60,.int .i64 14]=M.pure (.int .i64 r):=e1;rw[C52];exact⟨decide (r<=60),by simp[S52,e1']⟩
end Go.Proofs.YteemeakjlfnapaaGreatDoor
namespace Go.Proofs.YteemeakjlfnapaaGreatDoor
open Go Go.Av
set_option maxRecDepth 1000000
def uA:cL pg 80 29 [] []= .ok (.bool true) []:=by kernel_rfl
def fj:ah pg 29 []=M.pure (.bool true):=by
 funext h;have h1:=yE hOther uA (by simp);have e:∀h,ah pg 29 [] h=aD (bH (pg.cx (ah pg) Tryz.f29.ntmps yt) aj Tryz.f29 (pg.own 29) (dy au [])) h:=fun h=>Kv (ax hOther rfl rfl rfl []) h;rw[e]at h1 |-;unfold aD at h1 |-;generalize bH (pg.cx (ah pg) Tryz.f29.ntmps yt) aj Tryz.f29 (pg.own 29) (dy au []) []=r at h1 |-;cases r with
 |ok v h'=>
  simp only[R.ok.injEq]at h1;show R.ok (gy 6 h' v) h=_;rw[h1.1];rfl
 |pan v h'=>cases h1
 |fail=>cases h1
end Go.Proofs.YteemeakjlfnapaaGreatDoor
namespace Go.Proofs.YteemeakjlfnapaaGreatDoor
open Go Go.Av Go.Av.Ap
set_option maxRecDepth 100000
def aF{α β:Type}{m:M α}{a:α}{h h':Hp}(e:m h= .ok a h')(f:α->M β):ae m f h=f a h':=by simp only[ae,e]
def BZ(x:bi):(aa (aZ x)).length=3:=by simp
def EP(x:Ty):(aa x.av).length=2:=by simp
def iM(l:List bi):az l= .sl (l.map aZ):=by rw[az,bZ]
def t104(t:Ty)(h:aH t=true):ah pg 104 [t.av]=M.pure t.av:=by
 have e0:ah pg 104 [t.av]=jc (ah pg) [t.av]:=eq hOther rfl _;rw[e0];simp only[jc,Ab 5 t (zt 4 t (pt 4 t h)),Hr];rfl
theorem g7{α:Type}(F:α->Bool):(l:List α)->(i:Int)->(l.find? F=none/\bT F l i= -1)\/∃(k:Nat)(x:α),l.find? F=some x/\l[k]? = some x/\bT F l i=i+k
 |[],i=>.inl ⟨rfl,rfl⟩
 | x:: l,i=>by
  cases h:F x with
  |true=>exact .inr ⟨0,x,by simp[h],rfl,by simp[bT,h]⟩
  |false=>
   rcases g7 F l (i+1)with⟨h1,h2⟩|⟨k,y,h1,h2,h3⟩
   ·exact .inl ⟨by simp[h,h1],by simp[bT,h,h2]⟩
   ·exact .inr ⟨k+1,y,by simp[h,h1],by simpa using h2,by simp[bT,h,h3];omega⟩
theorem Gw{q n i:Nat}(h:i<n):ak T 54 (.hs q 0 n 2 true) (.int .i64 (i:Int))=some (.hp q (0+i*2)):=by
 have e:ak T 54 (.hs q 0 n 2 true) (.int .i64 (i:Int))=if 0<=(i:Int)/\(i:Int)<(n:Int)then some (.hp q (0+(i:Int).toNat*2))else none:=rfl;rw[e,Ht (by omega),HH]
def A4{q:Nat}{l:List Ty}{i:Nat}{h:Hp}(hi:i<l.length)(hq:h[q]? = some (rowOf Ty.av l)):bz T 27 (.hp q (0+i*2)) h= .ok l[i].av h:=by
 have hlen:=ff (f:=Ty.av) EP l;rw[pq (T:=T) (t:=27) rfl rfl hq (show 0+i*2+2<=_ by omega)];show R.ok (AV.agg (((rowOf Ty.av l).drop (0+i*2)).take 2)) h=_;rw[HJ,ez EP l i hi,bm,bW]
def xd{q:Nat}{l:List Ty}{i:Nat}{h:Hp}(hi:i<l.length)(hq:h[q]? = some (rowOf Ty.av l)):bI T 27 (.hp q (0+i*2)) l[i].av h= .ok (.tup []) h:=by
 have hlen:=ff (f:=Ty.av) EP l;refine mg (T:=T) (t:=27) rfl hq (Ap.fN _) (show 0+i*2+2<=_ by omega) (by decide) ?_;rw[bm];show ((rowOf Ty.av l).drop (0+i*2)).take 2=_;rw[HJ,ez EP l i hi,bm]
def Dh(l:List Ty)(hb:l.length<=4611686018427387904)(hk:∀t∈l,ah pg 104 [t.av]=M.pure t.av)(q:Nat)(h:Hp)(hq:h[q]? = some (rowOf Ty.av l))(x3 x4 x5 x6 x7:AV)(nm:bA)(k e:Int)(fs:List bi):∀(n i:Nat),l.length-i=n->i<=l.length->
  aj (L37_0 (ah pg) aj) [.hs q 0 l.length 2 true,.int .i64 l.length,.int .i64 i,x3,x4,x5,x6,x7,.str nm,.hs q 0 l.length 2 true,.int .i64 k,az fs,.int .i64 e] h= .ok (.tup [.agg [.str nm,.hs q 0 l.length 2 true,.int .i64 k,az fs,.int .i64 e],.bool true]) h:=by
 intro n
 induction n with
 |zero=>
  intro i hn hi;rw[FL37_0];have h1:¬((i:Int)<(l.length:Int)):=by omega
  have h2:ap 5 [] (.agg [.str nm,.hs q 0 l.length 2 true,.int .i64 k,az fs,.int .i64 e])=M.pure (.agg [.str nm,.hs q 0 l.length 2 true,.int .i64 k,az fs,.int .i64 e]):=aS rfl;simp[L37_0,h1,h2,M.pure]
 |succ n ih=>
  intro i hn hi;have hlt:i<l.length:=by omega
  have h1:(i:Int)<(l.length:Int):=by omega
  have ih':=ih (i+1) (by omega) (by omega);have hw:IntKind.i64.wrap ((i:Int)+1)=((i+1:Nat):Int):=be (by omega);have hc:=hk l[i] (HD hlt);rw[<- ih'];generalize hcode:aj (L37_0 (ah pg) aj) [.hs q 0 l.length 2 true,.int .i64 l.length,.int .i64 i,x3,x4,x5,x6,x7,.str nm,.hs q 0 l.length 2 true,.int .i64 k,az fs,.int .i64 e] h=code;rw[FL37_0]at hcode;simp -implicitDefEqProofs only[L37_0,a7,bc,bJ,aG,aY,h1,Iq,H7,Gw hlt]at hcode;rw[aF (A4 hlt hq)]at hcode;simp -implicitDefEqProofs only[Av.dA,aV,bm,aG,LD27,HG,HM,HJ,Nat.reduceAdd,Hu,H7,HY,H9,bW,hc,e9]at hcode;rw[show (i*2)=0+i*2 by omega]at hcode;rw[aF (xd hlt hq)]at hcode;simp -implicitDefEqProofs only[d7,aG,hw]at hcode;rw[<- hcode]
def Cj:Sig:=⟨[],[],ty0,0⟩
def t102(s:Sig)(name:bA):ah pg 102 [s.av,.ip [.str name]]=M.pure (.bool (s.name== name)):=by
 rw[C102];simp[S102,cl,dy]
theorem t37(f:Face)(hf:f.Lim)(hr:vJ f=true)(name:bA):ah pg 37 [f.av,.str name]=M.pure (match B9 f name with
  |some s=>.tup [s.av,.bool true]
  |none=>.tup [Cj.av,.bool false]):=by
 have hlen:=hf.len;have h1:=t101 (.fn (.func 102) [] [.ip [.str name]]) (fun s=>s.name== name) f.funcs (by omega) (fun g=>rfl) (fun x _=>t102 x name);unfold vJ at hr;simp only[Hq,Hx]at hr;rw[C37];unfold B9;rcases g7 (fun s:Sig=>s.name== name) f.funcs 0 with⟨h2,h3⟩|⟨k,s,h2,h3,h4⟩
 ·rw[h3]at h1;rw[h2];have e1:aU T false 56 []=some Cj.av:=rfl;simp[S37,cl,h1,e1];exact cr fun g=>by simp[cl,dy]
 ·have hm:s∈f.funcs:=IB h3;have hrs:=hr.2.1 s hm;unfold qI at hrs;simp only[Hq,Hy,Hx]at hrs;obtain⟨⟨⟨⟨_,hpl⟩,_⟩,hrr⟩,hps⟩:=hrs;have hk:k<f.funcs.length:=(HN.1 h3).1;rw[Int.zero_add]at h4;rw[h4]at h1;rw[h2];have hix:=Ao (l:=f.funcs) (n:=(k:Int)) (by omega) (by omega);rw[HH,IX,h3]at hix;have hix':ak T 22 (sigs f.funcs) (.int .i64 (k:Int))=some (.ip (aa s.av)):=hix;have hneg:¬((k:Int)<0):=by omega
  have hcl:=fun t (ht:t∈s.params)=>t104 t (hps t ht);have hcr:=t104 s.result hrr;have e0:ah pg 103 [dM s.params]=cX T 54 (ah pg) [dM s.params]:=eq hOther rfl _;have e1:=mU (T:=T) (t:=54) (f:=Ty.av) (sz:=2) rfl rfl rfl rfl rfl (by decide) (by decide) (fun x=>Ap.fN x) (ah pg) s.params (show s.params.length*32<=140737488355328 by omega) [];rw[show AV.sl (s.params.map Ty.av)=dM s.params from rfl,<- e0]at e1;funext hp;show aD _ hp=R.ok (.tup [s.av,.bool true]) hp;by_cases hps0:s.params=[]
  ·rw[Ht hps0]at e1;have e2:ap 5 [] (.agg [.str s.name,.sl [],.int .i64 s.result.kind,az s.result.fields,.int .i64 s.effects])=M.pure (.agg [.str s.name,.sl [],.int .i64 s.result.kind,az s.result.fields,.int .i64 s.effects]):=aS rfl;have key:S37 (ah pg) aj (cl au f.av) (cl au (.str name)) []= .ok (.tup [.agg [.str s.name,.sl [],.int .i64 s.result.kind,az s.result.fields,.int .i64 s.effects],.bool true]) []:=by
    simp only[S37,mo,mR,fu,FA24_1,aG,Iw,Ia,LD22,eS,h1,aV,bJ,hneg,Ji,aY,Iu,HT,hix',LD56,ee,HG,HM,HJ,Nat.reduceAdd,Hu,H7,HY,H9,fy,gW,a7,bc];rw[aF e1];simp only[bW,hcr,e9,aV,bE,aX,Hr,aG,iG,bm,BA,a7,bc];rw[FL37_0];simp[L37_0,e2,M.pure]
   unfold aD;rw[key];have:(AV.agg [.str s.name,.sl [],.int .i64 s.result.kind,az s.result.fields,.int .i64 s.effects])=s.av:=by rw[<- fy,hps0];rfl
   rw[this];have hc:Ap.Clean (AV.tup [s.av,.bool true]):=fun g=>by simp[cl,dy]
   exact Hs (fun x=>R.ok x hp) (hc.frz 6 [])
  ·rw[if_neg hps0]at e1;have hq:([]++[rowOf Ty.av s.params]:Hp)[0]? = some (rowOf Ty.av s.params):=rfl;have key:S37 (ah pg) aj (cl au f.av) (cl au (.str name)) []= .ok (.tup [.agg [.str s.name,.hs 0 0 s.params.length 2 true,.int .i64 s.result.kind,az s.result.fields,.int .i64 s.effects],.bool true]) ([]++[rowOf Ty.av s.params]):=by
    simp only[S37,mo,mR,fu,FA24_1,aG,Iw,Ia,LD22,eS,h1,aV,bJ,hneg,Ji,aY,Iu,HT,hix',LD56,ee,HG,HM,HJ,Nat.reduceAdd,Hu,H7,HY,H9,fy,gW,a7,bc];rw[aF e1];simp only[bW,hcr,e9,aV,bE,aX,Hr,aG,iG,bm,Cr,a7,bc,HM];exact Dh s.params (by omega) hcl 0 _ hq _ _ _ _ _ _ _ _ _ s.params.length 0 rfl (by omega)
   unfold aD;rw[key];have hfr:=lh (f:=Ty.av) EP (fun x=>by rw[bm,bW]) (fun x g=>mS g x) (by decide) hq 5;have:gy 6 ([]++[rowOf Ty.av s.params]) (.tup [.agg [.str s.name,.hs 0 0 s.params.length 2 true,.int .i64 s.result.kind,az s.result.fields,.int .i64 s.effects],.bool true])= .tup [s.av,.bool true]:=by
    rw[<- fy];show AV.tup [.agg [.str s.name,gy 6 ([]++[rowOf Ty.av s.params]) (.hs 0 0 s.params.length 2 true),.int .i64 s.result.kind,cl _ (az s.result.fields),.int .i64 s.effects],.bool true]=_;rw[hfr,j0];rfl
   show R.ok (gy 6 _ _) hp=_;rw[this]
def dl(t:Ty):Prop:=∀n,Ty.Short n t
def dl.len{t:Ty}(h:dl t):t.fields.length<=1000000000:=(h 1).1
def dl.kid{t:Ty}(h:dl t){f:bi}(hf:f∈t.fields):dl f.2:=fun n=>(h (n+1)).2 f hf
def eg{d:Nat}{t:Ty}(h:b9 d t=true):dl t:=fQ d t h
def qM{k:Int}{fs:List bi}(h:fs.length<=1000000000)(hf:∀f∈fs,dl f.2):dl (.mk k fs):=fun n=>by
 cases n with
 |zero=>exact trivial
 |succ n=>exact⟨h,fun f hm=>hf f hm n⟩
def uX{t:Ty}{f:bi}(h:f∈t.fields):SizeOf.sizeOf f.2<SizeOf.sizeOf t:=by
 cases t with
 |mk k fs=>
  have h1:=Jr (show f∈fs from h);obtain⟨n,t⟩:=f;simp only[Jy,Ty.mk.sizeOf_spec]at h1 |-;have:SizeOf.sizeOf t<SizeOf.sizeOf ((n,t):bi):=by simp only[Jy];omega
  simp only[Jy]at this;omega
def lE(f:bi)(fs l:List bi):eQ (f:: fs) l=(match xj f l with|some x=>[x]|none=>[])++eQ fs l:=by
 simp only[eQ];rfl
theorem lD(f:bi)(l:List bi):xj f l=match aJ (fun z=>z.1== f.1) l with
  |some z=>(match ml f.2 z.2 with|some u=>some (f.1,u)|none=>none)
  |none=>none:=by
 obtain⟨n,t⟩:=f;simp only[xj];rfl
theorem s7(l:List bi):(fs:List bi)->(eQ fs l).length<=fs.length
 |[]=>by simp[eQ]
 |f:: fs=>by
  have:=s7 l fs
  rw[lE,HZ,HG];cases xj f l<;>simp<;>omega
def qo(n:bA)(t:Ty):aU T false 76 [(0,.str n),(1,t.av)]=some (aZ (n,t)):=by
 cases t;rfl
def FX(f:bi):aL T 25 1 [(0,aZ f)]=some (az [f]):=by
 obtain⟨n,t⟩:=f;cases t;rfl
theorem Az(l:List bi):bE (az l)=M.pure (az l):=rfl
def Bd(b:Ty)(hb:dl b)(l:List bi)(hl:l.length<=1000000000)(k:Int)(x4 x5:AV)(hk:∀f∈l,∀t:Ty,dl t->ah pg 232 [f.2.av,t.av]=M.pure (match ml f.2 t with|some u=>.tup [u.av,.bool true]|none=>.tup [ty0.av,.bool false])):∀(n i:Nat)(acc:List bi),l.length-i=n->i<=l.length->acc.length<=i->
  aj (L232_0 (ah pg) aj) [.ip (aa b.av),az l,.int .i64 l.length,.int .i64 i,x4,x5,.int .i64 k,az acc]=M.pure (.tup [(Ty.mk k (acc++eQ (l.drop i) b.fields)).av,.bool true]):=by
 intro n
 induction n with
 |zero=>
  intro i acc hn hi ha;have h1:¬((i:Int)<(l.length:Int)):=by omega
  have h2:l.drop i=[]:=HQ (by omega);have h3:ap 2 [] (.agg [.int .i64 k,az acc])=M.pure (.agg [.int .i64 k,az acc]):=aS rfl;rw[FL232_0,h2];simp[L232_0,h1,eQ,h3];rfl
 | succ n ih=>
  intro i acc hn hi ha;have hlt:i<l.length:=by omega
  have h1:(i:Int)<(l.length:Int):=by omega
  have h2:l.drop i=l[i]:: l.drop (i+1):=HK hlt;have hw:IntKind.i64.wrap ((i:Int)+1)=(i:Int)+1:=be (by omega);have hix:=pR (l:=l) (n:=(i:Int)) (by omega) h1;rw[HH,HP l i hlt]at hix;have hk':=hk l[i] (HD hlt);have hlk:=t181 b.fields hb.len l[i].1;have ih2:∀acc:List bi,acc.length<=i+1->aj (L232_0 (ah pg) aj) [.ip (aa b.av),az l,.int .i64 l.length,.int .i64 ((i:Int)+1),x4,x5,.int .i64 k,az acc]=M.pure (.tup [(Ty.mk k (acc++eQ (l.drop (i+1)) b.fields)).av,.bool true]):=fun acc ha=>ih (i+1) acc (by omega) (by omega) ha;simp only[bm]at ih2;rw[FL232_0,h2,lE,lD];generalize l[i]=f at hix hk' hlk |-;cases hz:aJ (fun z:bi=>z.1== f.1) b.fields with
  |none=>
   rw[hz]at hlk;have ih':=ih2 acc (by omega);simp[L232_0,h1,hix,hlk,hw,ih']
  | some z=>
   rw[hz]at hlk;have hc:=hk' z.2 (hb.kid (fR hz).1);cases hu:ml f.2 z.2 with
   |none=>
    rw[hu]at hc;have ih':=ih2 acc (by omega);simp[L232_0,h1,hix,hlk,hw,hc,hu,ih']
   |some u=>
    rw[hu]at hc;have ih':=ih2 (acc++[(f.1,u)]) (by simp;omega);have hap:=Am (a:=acc) (b:=[(f.1,u)]) (by simp;omega);simp[L232_0,h1,hix,hlk,hw,hc,hu,qo,FX,hap,Az,ih']
theorem t232(a b:Ty)(ha:dl a)(hb:dl b):ah pg 232 [a.av,b.av]=M.pure (match ml a b with|some u=>.tup [u.av,.bool true]|none=>.tup [ty0.av,.bool false]):=by
 have hloop:=Bd b hb a.fields ha.len a.kind (.int .i64 0) (.sl []) (fun f hf t ht=>by
  have:=uX hf
  exact t232 f.2 t (ha.kid hf) ht) a.fields.length 0 [] rfl (H5 _) (H5 _)
 rw[C232];have e1:ml a b=if a.kind=b.kind then some (.mk a.kind (eQ a.fields b.fields))else none:=by
  cases a;cases b;simp only[ml,Ty.kind,Ty.fields];rfl
 have b1:aU T false 27 []=some ty0.av:=rfl;have b2:∀k:Int,aU T true 27 [(0,.int .i64 k)]=some (.agg [.int .i64 k,.hn]):=fun k=>rfl;have b3:∀k:Int,ap 2 [1] (.agg [.int .i64 k,.hn])=M.pure (.agg [.int .i64 k,.hn]):=fun k=>rfl;rw[e1];simp only[Ia,Ir]at hloop;by_cases hk:a.kind=b.kind
 ·have hk':(a.kind != b.kind)=false:=by simp[hk]
  rw[Ht hk];have hloop':aj (L232_0 (ah pg) aj) [.ip (aa b.av),az a.fields,.int .i64 a.fields.length,.int .i64 0,.int .i64 0,.sl [],.int .i64 a.kind,.sl []]=M.pure (.tup [(Ty.mk a.kind (eQ a.fields b.fields)).av,.bool true]):=hloop;simp only[bm]at hloop';simp[S232,hk',b2,b3,hloop'];exact cr fun g=>by simp[cl,dy]
 ·have hk':(a.kind != b.kind)=true:=by simp[hk]
  rw[if_neg hk];simp[S232,hk',b1];exact cr fun g=>by simp[cl,dy]
termination_by SizeOf.sizeOf a
end Go.Proofs.YteemeakjlfnapaaGreatDoor
