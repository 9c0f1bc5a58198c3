/- What the functions of the seat compute, part 4: the texts of the claim, one behind the other. Conditions: bounds, as each theorem names them. -/
import Derived.Test.YteemeakjlfnapaaGreatDoorTc
import Derived.Shelf.SlGeneric
import Derived.Ground.SlsfProg
import Derived.Shelf.SlSortCmp.NoneTotal
import Derived.Test.YteemeakjlfnapaaGreatDoorLd
import Derived.Test.YteemeakjlfnapaaGreatDoorRows
import Derived.Lib.LaidTab
import Derived.Stop.LaidErr
import Derived.Shelf.Vars
import Derived.ProofKit
import Derived.Deep.DeepHandedRow
import Derived.Deep.DeepWitnessRowRef
import Derived.Deep.DeepLaidRun
set_option linter.defProp false
set_option linter.unusedSimpArgs false
set_option linter.unusedVariables false
namespace Go.Proofs.YteemeakjlfnapaaGreatDoor.F
open Go Go.Av Go.Av.Ap
set_option maxRecDepth 100000
def uQ:Ann:={ kinds:=[(1,.L),(4,.S)],hl:=[16],nl:=[16,21],lw:=[2,4,8],loops:=[(0,{ vals:=[(10,none),(11,none),(12,none),(2000,none),(2001,none),(3000,none),(3001,none)],locs:=[(1,2000,0),(2,3000,0)],lbs:=[(2000,2),(3000,2)] })] }
noncomputable def kf:List (Nat×(Func×Ann)):=[(104,(Tryz.f104,uQ))]
def own:FuncId->Option Nat:=fun _=>none
noncomputable def other:FuncId->Option ((FuncId->List AV->M AV)->List AV->M AV):=fun f=>bif Nat.beq f 163 then some (dG T 25)else none
noncomputable def pg:Pg:={ T:=T,funcs:=nA kf,own:=own,other:=other,nw:=fun f=>bif Nat.beq f 163 then true else false }
def hOther:cD pg:=by
 intro f E hE call calls hc;have h0:other f=some E:=hE;unfold other at h0;rcases cT h0 with rfl|h0
 ·exact lx _ _ _ _
 cases h0
end Go.Proofs.YteemeakjlfnapaaGreatDoor.F
namespace Go.Proofs.YteemeakjlfnapaaGreatDoor
open Go Go.Av Go.Av.Ap
set_option maxRecDepth 100000
@[simp] theorem FA24_0(cs:List AV):aa T 24 (.ip cs) 0=some (.ip (cs.drop 0)):=rfl
@[simp] theorem FH24_0(l k:Nat):aa T 24 (.hp l k) 0=some (.hp l (k+0)):=rfl
@[simp] theorem FA24_1(cs:List AV):aa T 24 (.ip cs) 1=some (.ip (cs.drop 1)):=rfl
@[simp] theorem FH24_1(l k:Nat):aa T 24 (.hp l k) 1=some (.hp l (k+1)):=rfl
@[simp] theorem FA27_0(cs:List AV):aa T 27 (.ip cs) 0=some (.ip (cs.drop 0)):=rfl
@[simp] theorem FH27_0(l k:Nat):aa T 27 (.hp l k) 0=some (.hp l (k+0)):=rfl
@[simp] theorem FA27_1(cs:List AV):aa T 27 (.ip cs) 1=some (.ip (cs.drop 1)):=rfl
@[simp] theorem FH27_1(l k:Nat):aa T 27 (.hp l k) 1=some (.hp l (k+1)):=rfl
@[simp] theorem FA29_0(cs:List AV):aa T 29 (.ip cs) 0=some (.ip (cs.drop 0)):=rfl
@[simp] theorem FH29_0(l k:Nat):aa T 29 (.hp l k) 0=some (.hp l (k+0)):=rfl
@[simp] theorem FA29_1(cs:List AV):aa T 29 (.ip cs) 1=some (.ip (cs.drop 1)):=rfl
@[simp] theorem FH29_1(l k:Nat):aa T 29 (.hp l k) 1=some (.hp l (k+1)):=rfl
@[simp] theorem FA29_2(cs:List AV):aa T 29 (.ip cs) 2=some (.ip (cs.drop 2)):=rfl
@[simp] theorem FH29_2(l k:Nat):aa T 29 (.hp l k) 2=some (.hp l (k+2)):=rfl
@[simp] theorem FA39_0(cs:List AV):aa T 39 (.ip cs) 0=some (.ip (cs.drop 0)):=rfl
@[simp] theorem FH39_0(l k:Nat):aa T 39 (.hp l k) 0=some (.hp l (k+0)):=rfl
@[simp] theorem FA39_1(cs:List AV):aa T 39 (.ip cs) 1=some (.ip (cs.drop 1)):=rfl
@[simp] theorem FH39_1(l k:Nat):aa T 39 (.hp l k) 1=some (.hp l (k+1)):=rfl
@[simp] theorem FA39_2(cs:List AV):aa T 39 (.ip cs) 2=some (.ip (cs.drop 2)):=rfl
@[simp] theorem FH39_2(l k:Nat):aa T 39 (.hp l k) 2=some (.hp l (k+2)):=rfl
@[simp] theorem FA41_0(cs:List AV):aa T 41 (.ip cs) 0=some (.ip (cs.drop 0)):=rfl
@[simp] theorem FH41_0(l k:Nat):aa T 41 (.hp l k) 0=some (.hp l (k+0)):=rfl
@[simp] theorem FA41_1(cs:List AV):aa T 41 (.ip cs) 1=some (.ip (cs.drop 1)):=rfl
@[simp] theorem FH41_1(l k:Nat):aa T 41 (.hp l k) 1=some (.hp l (k+1)):=rfl
@[simp] theorem FA41_2(cs:List AV):aa T 41 (.ip cs) 2=some (.ip (cs.drop 2)):=rfl
@[simp] theorem FH41_2(l k:Nat):aa T 41 (.hp l k) 2=some (.hp l (k+2)):=rfl
@[simp] theorem FA41_3(cs:List AV):aa T 41 (.ip cs) 3=some (.ip (cs.drop 3)):=rfl
@[simp] theorem FH41_3(l k:Nat):aa T 41 (.hp l k) 3=some (.hp l (k+3)):=rfl
@[simp] theorem FA41_4(cs:List AV):aa T 41 (.ip cs) 4=some (.ip (cs.drop 4)):=rfl
@[simp] theorem FH41_4(l k:Nat):aa T 41 (.hp l k) 4=some (.hp l (k+4)):=rfl
@[simp] theorem FA41_5(cs:List AV):aa T 41 (.ip cs) 5=some (.ip (cs.drop 5)):=rfl
@[simp] theorem FH41_5(l k:Nat):aa T 41 (.hp l k) 5=some (.hp l (k+5)):=rfl
@[simp] theorem FA41_6(cs:List AV):aa T 41 (.ip cs) 6=some (.ip (cs.drop 6)):=rfl
@[simp] theorem FH41_6(l k:Nat):aa T 41 (.hp l k) 6=some (.hp l (k+6)):=rfl
@[simp] theorem FA47_0(cs:List AV):aa T 47 (.ip cs) 0=some (.ip (cs.drop 0)):=rfl
@[simp] theorem FH47_0(l k:Nat):aa T 47 (.hp l k) 0=some (.hp l (k+0)):=rfl
@[simp] theorem FA47_1(cs:List AV):aa T 47 (.ip cs) 1=some (.ip (cs.drop 1)):=rfl
@[simp] theorem FH47_1(l k:Nat):aa T 47 (.hp l k) 1=some (.hp l (k+1)):=rfl
@[simp] theorem FA47_2(cs:List AV):aa T 47 (.ip cs) 2=some (.ip (cs.drop 2)):=rfl
@[simp] theorem FH47_2(l k:Nat):aa T 47 (.hp l k) 2=some (.hp l (k+2)):=rfl
@[simp] theorem FA47_3(cs:List AV):aa T 47 (.ip cs) 3=some (.ip (cs.drop 3)):=rfl
@[simp] theorem FH47_3(l k:Nat):aa T 47 (.hp l k) 3=some (.hp l (k+3)):=rfl
@[simp] theorem FA47_4(cs:List AV):aa T 47 (.ip cs) 4=some (.ip (cs.drop 4)):=rfl
@[simp] theorem FH47_4(l k:Nat):aa T 47 (.hp l k) 4=some (.hp l (k+4)):=rfl
@[simp] theorem FA47_5(cs:List AV):aa T 47 (.ip cs) 5=some (.ip (cs.drop 5)):=rfl
@[simp] theorem FH47_5(l k:Nat):aa T 47 (.hp l k) 5=some (.hp l (k+5)):=rfl
@[simp] theorem FA56_0(cs:List AV):aa T 56 (.ip cs) 0=some (.ip (cs.drop 0)):=rfl
@[simp] theorem FH56_0(l k:Nat):aa T 56 (.hp l k) 0=some (.hp l (k+0)):=rfl
@[simp] theorem FA56_1(cs:List AV):aa T 56 (.ip cs) 1=some (.ip (cs.drop 1)):=rfl
@[simp] theorem FH56_1(l k:Nat):aa T 56 (.hp l k) 1=some (.hp l (k+1)):=rfl
@[simp] theorem FA56_2(cs:List AV):aa T 56 (.ip cs) 2=some (.ip (cs.drop 2)):=rfl
@[simp] theorem FH56_2(l k:Nat):aa T 56 (.hp l k) 2=some (.hp l (k+2)):=rfl
@[simp] theorem FA56_3(cs:List AV):aa T 56 (.ip cs) 3=some (.ip (cs.drop 4)):=rfl
@[simp] theorem FH56_3(l k:Nat):aa T 56 (.hp l k) 3=some (.hp l (k+4)):=rfl
@[simp] theorem FA73_0(cs:List AV):aa T 73 (.ip cs) 0=some (.ip (cs.drop 0)):=rfl
@[simp] theorem FH73_0(l k:Nat):aa T 73 (.hp l k) 0=some (.hp l (k+0)):=rfl
@[simp] theorem FA73_1(cs:List AV):aa T 73 (.ip cs) 1=some (.ip (cs.drop 1)):=rfl
@[simp] theorem FH73_1(l k:Nat):aa T 73 (.hp l k) 1=some (.hp l (k+1)):=rfl
@[simp] theorem FA73_2(cs:List AV):aa T 73 (.ip cs) 2=some (.ip (cs.drop 2)):=rfl
@[simp] theorem FH73_2(l k:Nat):aa T 73 (.hp l k) 2=some (.hp l (k+2)):=rfl
@[simp] theorem FA73_3(cs:List AV):aa T 73 (.ip cs) 3=some (.ip (cs.drop 3)):=rfl
@[simp] theorem FH73_3(l k:Nat):aa T 73 (.hp l k) 3=some (.hp l (k+3)):=rfl
@[simp] theorem FA73_4(cs:List AV):aa T 73 (.ip cs) 4=some (.ip (cs.drop 5)):=rfl
@[simp] theorem FH73_4(l k:Nat):aa T 73 (.hp l k) 4=some (.hp l (k+5)):=rfl
@[simp] theorem FA73_5(cs:List AV):aa T 73 (.ip cs) 5=some (.ip (cs.drop 6)):=rfl
@[simp] theorem FH73_5(l k:Nat):aa T 73 (.hp l k) 5=some (.hp l (k+6)):=rfl
@[simp] theorem FA76_0(cs:List AV):aa T 76 (.ip cs) 0=some (.ip (cs.drop 0)):=rfl
@[simp] theorem FH76_0(l k:Nat):aa T 76 (.hp l k) 0=some (.hp l (k+0)):=rfl
@[simp] theorem FA76_1(cs:List AV):aa T 76 (.ip cs) 1=some (.ip (cs.drop 1)):=rfl
@[simp] theorem FH76_1(l k:Nat):aa T 76 (.hp l k) 1=some (.hp l (k+1)):=rfl
@[simp] theorem FA104_1(cs:List AV):aa T 104 (.ip cs) 1=some (.ip (cs.drop 1)):=rfl
@[simp] theorem FH104_1(l k:Nat):aa T 104 (.hp l k) 1=some (.hp l (k+1)):=rfl
@[simp] theorem FA149_0(cs:List AV):aa T 149 (.ip cs) 0=some (.ip (cs.drop 0)):=rfl
@[simp] theorem FH149_0(l k:Nat):aa T 149 (.hp l k) 0=some (.hp l (k+0)):=rfl
@[simp] theorem FA149_1(cs:List AV):aa T 149 (.ip cs) 1=some (.ip (cs.drop 2)):=rfl
@[simp] theorem FH149_1(l k:Nat):aa T 149 (.hp l k) 1=some (.hp l (k+2)):=rfl
@[simp] theorem FA225_0(cs:List AV):aa T 225 (.ip cs) 0=some (.ip (cs.drop 0)):=rfl
@[simp] theorem FH225_0(l k:Nat):aa T 225 (.hp l k) 0=some (.hp l (k+0)):=rfl
@[simp] theorem FA225_1(cs:List AV):aa T 225 (.ip cs) 1=some (.ip (cs.drop 1)):=rfl
@[simp] theorem FH225_1(l k:Nat):aa T 225 (.hp l k) 1=some (.hp l (k+1)):=rfl
@[simp] theorem FA225_2(cs:List AV):aa T 225 (.ip cs) 2=some (.ip (cs.drop 2)):=rfl
@[simp] theorem FH225_2(l k:Nat):aa T 225 (.hp l k) 2=some (.hp l (k+2)):=rfl
@[simp] theorem LD3(x:AV)(l:List AV):aj T 3 (.ip (x:: l))=some x:=rfl
@[simp] theorem LD4(x:AV)(l:List AV):aj T 4 (.ip (x:: l))=some x:=rfl
@[simp] theorem LD9(x:AV)(l:List AV):aj T 9 (.ip (x:: l))=some x:=rfl
@[simp] theorem LD22(x:AV)(l:List AV):aj T 22 (.ip (x:: l))=some x:=rfl
@[simp] theorem LD24(cs:List AV):aj T 24 (.ip cs)=if 2<=cs.length then some (.agg (cs.take 2))else none:=rfl
@[simp] theorem LD25(x:AV)(l:List AV):aj T 25 (.ip (x:: l))=some x:=rfl
@[simp] theorem LD27(cs:List AV):aj T 27 (.ip cs)=if 2<=cs.length then some (.agg (cs.take 2))else none:=rfl
@[simp] theorem LD29(cs:List AV):aj T 29 (.ip cs)=if 3<=cs.length then some (.agg (cs.take 3))else none:=rfl
@[simp] theorem LD35(x:AV)(l:List AV):aj T 35 (.ip (x:: l))=some x:=rfl
@[simp] theorem LD36(x:AV)(l:List AV):aj T 36 (.ip (x:: l))=some x:=rfl
@[simp] theorem LD37(x:AV)(l:List AV):aj T 37 (.ip (x:: l))=some x:=rfl
@[simp] theorem LD41(cs:List AV):aj T 41 (.ip cs)=if 9<=cs.length then some (.agg (cs.take 9))else none:=rfl
@[simp] theorem LD47(cs:List AV):aj T 47 (.ip cs)=if 6<=cs.length then some (.agg (cs.take 6))else none:=rfl
@[simp] theorem LD54(x:AV)(l:List AV):aj T 54 (.ip (x:: l))=some x:=rfl
@[simp] theorem LD56(cs:List AV):aj T 56 (.ip cs)=if 5<=cs.length then some (.agg (cs.take 5))else none:=rfl
@[simp] theorem LD73(cs:List AV):aj T 73 (.ip cs)=if 12<=cs.length then some (.agg (cs.take 12))else none:=rfl
@[simp] theorem LD76(cs:List AV):aj T 76 (.ip cs)=if 3<=cs.length then some (.agg (cs.take 3))else none:=rfl
@[simp] theorem LD102(x:AV)(l:List AV):aj T 102 (.ip (x:: l))=some x:=rfl
@[simp] theorem LD225(cs:List AV):aj T 225 (.ip cs)=if 3<=cs.length then some (.agg (cs.take 3))else none:=rfl
@[simp] theorem C6(s:bG):aN T 9 (.str s)=some (.int .i64 s.length):=rfl
@[simp] theorem Br(es:List AV):aN T 22 (.sl es)=some (.int .i64 es.length):=rfl
@[simp] theorem De:aN T 22 .hn=some (.int .i64 0):=rfl
@[simp] theorem C9(l k n s:Nat)(a:Bool):aN T 22 (.hs l k n s a)=some (.int .i64 n):=rfl
@[simp] theorem C7(l:List Sig):aN T 22 (sigs l)=some (.int .i64 l.length):=(Br _).trans (by simp)
@[simp] theorem Bt(es:List AV):aN T 25 (.sl es)=some (.int .i64 es.length):=rfl
@[simp] theorem Df:aN T 25 .hn=some (.int .i64 0):=rfl
@[simp] theorem Da(l k n s:Nat)(a:Bool):aN T 25 (.hs l k n s a)=some (.int .i64 n):=rfl
@[simp] theorem uJ(l:List eC):aN T 25 (aS l)=some (.int .i64 l.length):=(Bt _).trans (by simp[di])
@[simp] theorem Bu(es:List AV):aN T 35 (.sl es)=some (.int .i64 es.length):=rfl
@[simp] theorem Dg:aN T 35 .hn=some (.int .i64 0):=rfl
@[simp] theorem Db(l k n s:Nat)(a:Bool):aN T 35 (.hs l k n s a)=some (.int .i64 n):=rfl
@[simp] theorem zn(l:List bG):aN T 35 (strs l)=some (.int .i64 l.length):=(Bu _).trans (by simp)
@[simp] theorem Bv(es:List AV):aN T 36 (.sl es)=some (.int .i64 es.length):=rfl
@[simp] theorem Dh:aN T 36 .hn=some (.int .i64 0):=rfl
@[simp] theorem Dc(l k n s:Nat)(a:Bool):aN T 36 (.hs l k n s a)=some (.int .i64 n):=rfl
@[simp] theorem zo(l:List Exp):aN T 36 (ca l)=some (.int .i64 l.length):=(Bv _).trans (by simp[fl])
@[simp] theorem Bw(es:List AV):aN T 37 (.sl es)=some (.int .i64 es.length):=rfl
@[simp] theorem Di:aN T 37 .hn=some (.int .i64 0):=rfl
@[simp] theorem Dd(l k n s:Nat)(a:Bool):aN T 37 (.hs l k n s a)=some (.int .i64 n):=rfl
@[simp] theorem zp(l:List Fun):aN T 37 (bI l)=some (.int .i64 l.length):=(Bw _).trans (by simp)
@[simp] theorem yH(es:List AV):aN T 54 (.sl es)=some (.int .i64 es.length):=rfl
@[simp] theorem Dj:aN T 54 .hn=some (.int .i64 0):=rfl
@[simp] theorem zq(l k n s:Nat)(a:Bool):aN T 54 (.hs l k n s a)=some (.int .i64 n):=rfl
@[simp] theorem C8(l:List Ty):aN T 54 (jK l)=some (.int .i64 l.length):=(yH _).trans (by simp)
@[simp] theorem C4(es:List AV):aN T 102 (.sl es)=some (.int .i64 es.length):=rfl
@[simp] theorem CL:aN T 102 .hn=some (.int .i64 0):=rfl
@[simp] theorem CI(l k n s:Nat)(a:Bool):aN T 102 (.hs l k n s a)=some (.int .i64 n):=rfl
@[simp] theorem zm(es:List AV):aN T 196 (.sl es)=some (.int .i64 es.length):=rfl
@[simp] theorem CM:aN T 196 .hn=some (.int .i64 0):=rfl
@[simp] theorem CJ(l k n s:Nat)(a:Bool):aN T 196 (.hs l k n s a)=some (.int .i64 n):=rfl
@[simp] theorem CH(l:List Int):aN T 196 (ints l)=some (.int .i64 l.length):=(zm _).trans (by simp)
@[simp] theorem C5(es:List AV):aN T 222 (.sl es)=some (.int .i64 es.length):=rfl
@[simp] theorem CN:aN T 222 .hn=some (.int .i64 0):=rfl
@[simp] theorem CK(l k n s:Nat)(a:Bool):aN T 222 (.hs l k n s a)=some (.int .i64 n):=rfl
def uF{l:List Sig}{n:Int}(h0:0<=n)(h:n<(l.length:Int)):au T 22 (sigs l) (.int .i64 n)=some (.ip (ab (Sig.av l[n.toNat]!))):=cF (T:=T) (t:=22) (e:=56) rfl rfl rfl (fun _=>by first|rfl|(simp;done)|(simp;rfl)) h0 h
def py{l:List eC}{n:Int}(h0:0<=n)(h:n<(l.length:Int)):au T 25 (aS l) (.int .i64 n)=some (.ip (ab (cq l[n.toNat]!))):=by rw[aS,di];exact cF (T:=T) (t:=25) (e:=76) rfl rfl rfl (fun _=>by first|rfl|(simp;done)|(simp;rfl)) h0 h
def uG{l:List bG}{n:Int}(h0:0<=n)(h:n<(l.length:Int)):au T 35 (strs l) (.int .i64 n)=some (.ip (ab (AV.str l[n.toNat]!))):=cF (T:=T) (t:=35) (e:=9) rfl rfl rfl (fun _=>by first|rfl|(simp;done)|(simp;rfl)) h0 h
def uH{l:List Exp}{n:Int}(h0:0<=n)(h:n<(l.length:Int)):au T 36 (ca l) (.int .i64 n)=some (.ip (ab (Exp.av l[n.toNat]!))):=by rw[ca,fl];exact cF (T:=T) (t:=36) (e:=47) rfl rfl rfl (fun _=>by first|rfl|(simp;done)|(simp;rfl)) h0 h
def uI{l:List Fun}{n:Int}(h0:0<=n)(h:n<(l.length:Int)):au T 37 (bI l) (.int .i64 n)=some (.ip (ab (Fun.av l[n.toNat]!))):=cF (T:=T) (t:=37) (e:=73) rfl rfl rfl (fun _=>by first|rfl|(simp;done)|(simp;rfl)) h0 h
def zk{l:List Ty}{n:Int}(h0:0<=n)(h:n<(l.length:Int)):au T 54 (jK l) (.int .i64 n)=some (.ip (ab (Ty.av l[n.toNat]!))):=cF (T:=T) (t:=54) (e:=27) rfl rfl rfl (fun _=>by first|rfl|(simp;done)|(simp;rfl)) h0 h
def zi{a b:List Fun}(h:(a.length+b.length)*184<=140737488355328):eb T 37 (bI a) (bI b)=some (bI (a++b)):=by
 have:=pE (T:=T) (t:=37) (e:=73) rfl rfl rfl (f:=Fun.av) (fun _=>by first|rfl|(simp;done)|(simp;rfl)) (a:=a) (b:=b) h (by decide)
 simpa [bI]using this
def C3{a b:List Ty}(h:(a.length+b.length)*32<=140737488355328):eb T 54 (jK a) (jK b)=some (jK (a++b)):=by
 have:=pE (T:=T) (t:=54) (e:=27) rfl rfl rfl (f:=Ty.av) (fun _=>by first|rfl|(simp;done)|(simp;rfl)) (a:=a) (b:=b) h (by decide)
 simpa [jK]using this
end Go.Proofs.YteemeakjlfnapaaGreatDoor
namespace Go.Proofs.YteemeakjlfnapaaGreatDoor.F
open Go Go.Av Go.Av.Ap
set_option maxRecDepth 100000
def tt:(kf.map fun x=>Tryz.prog.funcs[x.1]?)=kf.map fun x=>some x.2.1:=by kernel_rfl
def mF:(kf.map fun x=>x.2.1.name== "runtime.NumGoroutine")=kf.map fun _=>false:=by kernel_rfl
def cB{α β:Type}{m:M α}{a:α}{h h':Hp}(e:m h= .ok a h')(f:α->M β):af m f h=f a h':=by simp only[af,e]
end Go.Proofs.YteemeakjlfnapaaGreatDoor.F
namespace Go.Proofs.YteemeakjlfnapaaGreatDoor
open Go Go.Av Go.Av.Ap
def AF(call:FuncId->List AV->M AV)(args:List AV)(h:Hp)(S:ap)(β:List aZ)(w:World)(vs:List Value)(hr:hM call args h≠.fail)(hg:mM β h w)(hw:Wf S w)(hh:bN S β w h)(hv:aG S β args vs):
  Calls Tryz.prog 104 vs.toArray w (cX none S β h w (hM call args h)):=by
 unfold hM at hr |-;split at hr
 ·rename_i v;cases hc:yG 5 v with
  |false=>rw[hc]at hr;exact absurd rfl hr
  |true=>
   obtain⟨t,rfl,ht⟩:=q9 5 v hc;have e:=congrFun (F.t104 5 t ht) h
   have:=(gJ F.good F.hOther 104 [t.av] h S β w vs (by rw[e];simp[M.pure]) hg hw hh hv).1
   rw[e]at this;exact this
 ·exact absurd rfl hr
theorem nR:∀(d:Nat)(t:Ty),cw d t=true->sd d t
 |0,t,h=>by cases h
 |d+1,t,h=>by
  rw[eQ]at h;simp only[Ea,Ej,Eg]at h;exact⟨by have:=h.1.1.2;omega,fun f hf=>nR d f.2 (h.2.1 f hf).2⟩
end Go.Proofs.YteemeakjlfnapaaGreatDoor
namespace Go.Proofs
open Go.Shelf
def DW:Go.Shelf.Ren:=⟨fun|6=>107|15=>168|14=>167|28=>222|29=>223|20=>214|21=>215|22=>216|23=>217|24=>218|25=>219|26=>220|27=>221|46=>246|47=>247|48=>248|49=>249|50=>250|57=>273|n=>n,fun|22=>22|24=>56|25=>126|3=>3|39=>175|0=>0|53=>212|55=>214|4=>4|46=>205|45=>204|50=>209|5=>5|9=>9|66=>234|70=>238|76=>260|77=>261|n=>n,fun|n=>n⟩
def DU:Go.Proofs.SlLaysF0.n6 Tryz.prog DW:={
 mixed:=by kernel_rfl
 f6:=⟨Tryz.f107.name,by decide,Tryz.func107.trans (Ee some (by kernel_rfl))⟩
 f14:=⟨Tryz.f167.name,by decide,Tryz.func167.trans (Ee some (by kernel_rfl))⟩
 f15:=Tryz.func168.trans (Ee some (by kernel_rfl))
 f20:=⟨Tryz.f214.name,by decide,Tryz.func214.trans (Ee some (by kernel_rfl))⟩
 f21:=⟨Tryz.f215.name,by decide,Tryz.func215.trans (Ee some (by kernel_rfl))⟩
 f22:=⟨Tryz.f216.name,by decide,Tryz.func216.trans (Ee some (by kernel_rfl))⟩
 f23:=⟨Tryz.f217.name,by decide,Tryz.func217.trans (Ee some (by kernel_rfl))⟩
 f24:=⟨Tryz.f218.name,by decide,Tryz.func218.trans (Ee some (by kernel_rfl))⟩
 f25:=⟨Tryz.f219.name,by decide,Tryz.func219.trans (Ee some (by kernel_rfl))⟩
 f26:=⟨Tryz.f220.name,by decide,Tryz.func220.trans (Ee some (by kernel_rfl))⟩
 f27:=⟨Tryz.f221.name,by decide,Tryz.func221.trans (Ee some (by kernel_rfl))⟩
 f28:=Tryz.func222.trans (Ee some (by kernel_rfl))
 f29:=Tryz.func223.trans (Ee some (by kernel_rfl))
 f46:=⟨Tryz.f246.name,by decide,Tryz.func246.trans (Ee some (by kernel_rfl))⟩
 f47:=Tryz.func247.trans (Ee some (by kernel_rfl))
 f48:=Tryz.func248.trans (Ee some (by kernel_rfl))
 f49:=⟨Tryz.f249.name,by decide,Tryz.func249.trans (Ee some (by kernel_rfl))⟩
 f50:=⟨Tryz.f250.name,by decide,Tryz.func250.trans (Ee some (by kernel_rfl))⟩
 f57:=⟨Tryz.f273.name,by decide,Tryz.func273.trans (Ee some (by kernel_rfl))⟩
 t0:=Tryz.underlying0
 a0:=Tryz.isAgg0
 z0:=Tryz.sizeOf0
 v0:=Tryz.zeroValue0
 t3:=Tryz.underlying3
 a3:=Tryz.isAgg3
 z3:=Tryz.sizeOf3
 v3:=Tryz.zeroValue3
 t4:=Tryz.underlying4
 a4:=Tryz.isAgg4
 z4:=Tryz.sizeOf4
 v4:=Tryz.zeroValue4
 t5:=Tryz.underlying5
 a5:=Tryz.isAgg5
 z5:=Tryz.sizeOf5
 v5:=Tryz.zeroValue5
 t9:=Tryz.underlying9
 a9:=Tryz.isAgg9
 z9:=Tryz.sizeOf9
 v9:=Tryz.zeroValue9
 t22:=Tryz.underlying22
 a22:=Tryz.isAgg22
 z22:=Tryz.sizeOf22
 v22:=Tryz.zeroValue22
 t25:=Tryz.underlying126
 a25:=Tryz.isAgg126
 z25:=Tryz.sizeOf126
 v25:=Tryz.zeroValue126
 t39:=Tryz.underlying175
 a39:=Tryz.isAgg175
 z39:=Tryz.sizeOf175
 v39:=Tryz.zeroValue175
 t45:=Tryz.underlying204
 a45:=Tryz.isAgg204
 z45:=Tryz.sizeOf204
 v45:=Tryz.zeroValue204
 t46:=Tryz.underlying205
 a46:=Tryz.isAgg205
 z46:=Tryz.sizeOf205
 v46:=Tryz.zeroValue205
 t50:=Tryz.underlying209
 a50:=Tryz.isAgg209
 z50:=Tryz.sizeOf209
 v50:=Tryz.zeroValue209
 t53:=Tryz.underlying212
 a53:=Tryz.isAgg212
 z53:=Tryz.sizeOf212
 v53:=Tryz.zeroValue212
 t55:=Tryz.underlying214
 a55:=Tryz.isAgg214
 z55:=Tryz.sizeOf214
 v55:=Tryz.zeroValue214
 t66:=Tryz.underlying234
 a66:=Tryz.isAgg234
 z66:=Tryz.sizeOf234
 v66:=Tryz.zeroValue234
 t70:=Tryz.underlying238
 a70:=Tryz.isAgg238
 z70:=Tryz.sizeOf238
 v70:=Tryz.zeroValue238
 t76:=Tryz.underlying260
 a76:=Tryz.isAgg260
 z76:=Tryz.sizeOf260
 v76:=Tryz.zeroValue260
 t77:=Tryz.underlying261
 a77:=Tryz.isAgg261
 z77:=Tryz.sizeOf261
 v77:=Tryz.zeroValue261 }
end Go.Proofs
namespace Go.Proofs.YteemeakjlfnapaaGreatDoor.D
open Go Go.Av Go.Av.Ap
set_option maxRecDepth 100000
noncomputable def pg:Pg:={ T:=T,funcs:=nA kf,own:=own,other:=fun _=>none }
def hOther:cD pg:=fun f E h=>by cases h
def E169(call:FuncId->List AV->M AV)(fx:bY AV)(a0:AV):bR (pg.cx call Tryz.f169.ntmps rj) fx Tryz.f169 (own 169) [a0]=S169 call fx a0:=by kernel_rfl
def C169(a0:AV):ai pg 169 [a0]=aE (S169 (ai pg) ak (cl ax a0)):=(aw hOther rfl rfl rfl _).trans (Ee aE (E169 _ _ (cl ax a0)))
def E109(call:FuncId->List AV->M AV)(fx:bY AV)(a0 a1:AV):bR (pg.cx call Tryz.f109.ntmps ri) fx Tryz.f109 (own 109) [a0,a1]=S109 call fx a0 a1:=by kernel_rfl
def C109(a0 a1:AV):ai pg 109 [a0,a1]=aE (S109 (ai pg) ak (cl ax a0) (cl ax a1)):=(aw hOther rfl rfl rfl _).trans (Ee aE (E109 _ _ (cl ax a0) (cl ax a1)))
def E108(call:FuncId->List AV->M AV)(fx:bY AV)(a0 a1:AV):bR (pg.cx call Tryz.f108.ntmps rf) fx Tryz.f108 (own 108) [a0,a1]=S108 call fx a0 a1:=by kernel_rfl
def C108(a0 a1:AV):ai pg 108 [a0,a1]=aE (S108 (ai pg) ak (cl ax a0) (cl ax a1)):=(aw hOther rfl rfl rfl _).trans (Ee aE (E108 _ _ (cl ax a0) (cl ax a1)))
@[simp] theorem C0(t:Nat)(a b:bG):ar T .gtr t (.str a) (.str b)=some (.bool !(aC a b||a== b)):=rfl
theorem t169(s:bG):ai pg 169 [.str s]=M.pure (.bool false):=by
 rw[C169];have e:ar T .neq 9 (.str s) (.str s)=some (.bool !(s== s)):=rfl;simp[S169,e]
def t109(a b:bG):ai pg 109 [.str a,.str b]=M.pure (.int .i64 (rJ a b)):=by
 rw[C109];unfold rJ;cases h1:aC a b with
 |true=>simp[S109,t169,h1]
 | false=>
  by_cases h2:a=b
  ·subst h2;simp[S109,t169,bz]
  ·have h3:=cU a b h1 h2;have h4:(a== b)=false:=E4.2 h2;simp[S109,t169,h1,h3,h2]
def t108(a b:bG)(x1 x2 x3 x4 y1 y2 y3 y4:AV):ai pg 108 [.agg [.str a,x1,x2,x3,x4],.agg [.str b,y1,y2,y3,y4]]=M.pure (.int .i64 (rJ a b)):=by
 rw[C108];have f0:∀cs,aa T 56 (.ip cs) 0=some (.ip (cs.drop 0)):=fun cs=>rfl;have l0:∀(s:bG)(cs:List AV),aj T 9 (.ip (.str s:: cs))=some (.str s):=fun s cs=>rfl;simp[S108,cl,dy,ab,f0,l0,t109]
def good:@GoodPg ⟨True⟩ Tryz.prog pg:=by
 letI:Dr:=⟨True⟩
 exact⟨tok,qk,(fun f E h=>by cases h),(fun f h=>by cases h)⟩
end Go.Proofs.YteemeakjlfnapaaGreatDoor.D
namespace Go.Proofs.YteemeakjlfnapaaGreatDoor
open Go Go.Av Go.Av.Ap Go.RowKit Go.Sort
set_option maxRecDepth 1000000
def DD(keys:List bG)(n:Nat):SWO (ltOf (xw keys n)):=by
 have h:∀i j,ltOf (xw keys n) i j=aC keys[i % n]! keys[j % n]!:=fun i j=>by
  unfold ltOf xw rJ;cases h1:aC keys[i % n]! keys[j % n]! with
  |true=>simp
  |false=>
   cases h2:aC keys[j % n]! keys[i % n]! <;> simp
 refine⟨fun x=>?_,fun x y z=>?_,fun x y z=>?_⟩
 ·rw[h,bz]
 ·rw[h,h,h];exact bX _ _ _
 ·rw[h,h,h];intro h1 h2;cases h3:aC keys[x % n]! keys[z % n]! with
  |false=>rfl
  | true=>
   exfalso;by_cases e:keys[x % n]! = keys[y % n]!
   ·rw[e,h2]at h3;cases h3
   ·have:=bX _ _ _ (cU _ _ h1 e) h3
    rw[this]at h2;cases h2
def t8{ev:Nat->List Value}{k:Nat}{w:World}(hg:GOKw w){blk off n:Nat}{d:Array Nat}{os:Array Obj}(hb:gN<=blk):GOKw (sortWorldK ev k w blk off n d os):=
 hg.mono fun b hlt=>mB ev k off n d os (EK hlt hg.lt) (by omega)
def tU:∀args w,(callFunc 108 args).run Tryz.prog w= .ok (.enter 108 args) w:=enters_of Tryz.func108 (by kernel_rfl) rfl
def Ae(a b:bG)(u v:List Value)(hu:∃(x:ByteArray)(r:List Value),u= .string x:: r/\x.data.toList=a)(hv:∃(x:ByteArray)(r:List Value),v= .string x:: r/\x.data.toList=b)(lu:u.length=5)(lv:v.length=5)(W:World)(hg:GOKw W):
  Calls Tryz.prog 108 #[.agg u.toArray,.agg v.toArray] W fun e w'=>e= .returned (.int .i64 (rJ a b))/\∃q os',w'=grow (W.drewN q) os':=by
 letI:Dr:=⟨True⟩
 have hs:∀(s:bG)(u:List Value),(∃(x:ByteArray)(r:List Value),u= .string x:: r/\x.data.toList=s)->u.length=5->VR (gD W) [] (.agg [.str s,.any,.any,.any,.any]) (.agg u.toArray):=by
  rintro s u ⟨x,r,rfl,hx⟩ hl;obtain⟨r1,r2,r3,r4,rfl⟩:∃r1 r2 r3 r4,r=[r1,r2,r3,r4]:=by
   match r,hl with
   |[r1,r2,r3,r4],_=>exact⟨r1,r2,r3,r4,rfl⟩
  simp only[VR];refine⟨_,rfl,?_⟩;simp only[aG,VR];exact⟨_,_,rfl,⟨x,rfl,hx⟩,_,_,rfl,trivial,_,_,rfl,trivial,_,_,rfl,trivial,_,_,rfl,trivial,rfl⟩
 have hv2:aG (gD W) [] [.agg [.str a,.any,.any,.any,.any],.agg [.str b,.any,.any,.any,.any]] [.agg u.toArray,.agg v.toArray]:=by
  simp only[aG];exact⟨_,_,rfl,hs a u hu lu,_,_,rfl,hs b v hv lv,rfl⟩
 have h:=(gJ D.good D.hOther 108 [.agg [.str a,.any,.any,.any,.any],.agg [.str b,.any,.any,.any,.any]] [] (gD W) [] W _ (by rw[D.t108];simp[M.pure]) ⟨hg,fun b _ ho=>by obtain⟨l,_,_,h1,_⟩:=ho;simp at h1⟩ (fun _ _ _ h=>h) ⟨rfl,fun _=>.no,fun l cs hl=>by simp at hl⟩ hv2).1;rw[D.t108]at h;refine h.mono fun e w' hp=>?_;obtain⟨S',β',v,rfl,hv,L,_⟩:=hp;simp only[VR]at hv;subst hv;exact⟨rfl,L.grew trivial⟩
def BA:∀w,(isAgg 56).run Tryz.prog w= .ok true w:=fun w=>by kernel_rfl
def AW:∀w,(Go.sizeOf 56).run Tryz.prog w= .ok 5 w:=fun w=>by kernel_rfl
def qZ(w:World)(blk off cap:Nat)(keys:List bG)(ev:Nat->List Value)(_h0:0<keys.length)(hl:∀i,(ev i).length=5)(h1:∀i,∀v∈ev i,v.oneCell'=true)(hk:∀i,∃(x:ByteArray)(r:List Value),ev i= .string x:: r/\x.data.toList=keys[i % keys.length]!)(hg:GOKw w)(hb:gN<=blk)(hH:HoldsK ev 5 w blk off (Array.range keys.length))(hlt:blk<w.heap.size)(hsz:keys.length<4611686018427387904):
  Calls Tryz.prog 107 #[.slice (some ⟨blk,off,none⟩) keys.length cap,.func (.func 108) #[] #[]] w fun e w'=>e= .returned (.tuple #[])/\∃n os,w'=sortWorldK ev 5 w blk off n (dP keys).toArray os:=by
 have:=AnyQ.slices_SortFunc_eq DU 5 BA AW ev hl h1 (xw keys keys.length) (DD keys keys.length) 108 #[] blk off cap (Array.range keys.length) w tU
  (fun m os dk _ x y=>Ae _ _ _ _ (hk x) (hk y) (hl x) (hl y) _ (t8 hg hb)) hH hlt (by simpa using hsz)
 rw[Array.size_range]at this;refine this.mono ?_;rintro e w' ⟨he,n,os,hw⟩;refine⟨he,n,os,?_⟩;rw[hw];unfold dP;simp
def AG(call:FuncId->List AV->M AV)(args:List AV)(h:Hp)(S:ap)(β:List aZ)(w:World)(vs:List Value)(hr:ef 5 108 call args h≠.fail)(hg:mM β h w)(hw:Wf S w)(hh:bN S β w h)(hv:aG S β args vs):
  Calls Tryz.prog 107 vs.toArray w (cX none S β h w (ef 5 108 call args h)):=by
 have h0:=hr;unfold ef at hr;split at hr
 ·rename_i g';cases hb:Nat.beq g' 108 with
  |false=>rw[hb]at hr;exact absurd rfl hr
  |true=>
   have e:ef 5 108 call [.sl [],.fn (.func g') [] []] h= .ok (.tup []) h:=by simp only[ef,hb,D9]
   rw[e];simp only[aG,VR,Ex]at hv;obtain⟨_,_,rfl,⟨a,cap,rfl,_⟩,v,_,rfl,_,rfl⟩:=hv;refine (AnyF.slices_SortFunc_none DU a cap v w).mono ?_;rintro e' w' ⟨rfl,rfl⟩;exact dh hw hh (Below.refl _ _) qH (by simp only[VR,aG];exact⟨[],rfl,rfl⟩)
 ·rename_i g';cases hb:Nat.beq g' 108 with
  |false=>rw[hb]at hr;exact absurd rfl hr
  |true=>
   have e:ef 5 108 call [.hn,.fn (.func g') [] []] h= .ok (.tup []) h:=by simp only[ef,hb,D9]
   rw[e];simp only[aG,VR]at hv;obtain⟨_,_,rfl,rfl,v,_,rfl,_,rfl⟩:=hv;refine (AnyF.slices_SortFunc_none DU none 0 v w).mono ?_;rintro e' w' ⟨rfl,rfl⟩;exact dh hw hh (Below.refl _ _) qH (by simp only[VR,aG];exact⟨[],rfl,rfl⟩)
 ·exact wu call qZ h0 hg hw hh hv
 ·exact absurd rfl hr
end Go.Proofs.YteemeakjlfnapaaGreatDoor
namespace Go.Proofs.YteemeakjlfnapaaGreatDoor
open Go Go.Av Go.RowKit
set_option maxRecDepth 100000
def Dk{α:Type}{f k:Nat}{x:α}{o:Option α}{y:α}(h:(bif Nat.beq f k then some x else o)=some y):(f=k/\x=y)\/o=some y:=by
 cases hb:Nat.beq f k with
 |true=>rw[hb]at h;exact .inl ⟨Ec hb,by simpa using h⟩
 |false=>rw[hb]at h;exact .inr h
def vG{α:Type}{f k:Nat}{x y:α}{o:Option α}{P:Prop}(h1:f=k->x=y->P)(h2:o=some y->P)(h:(bif Nat.beq f k then some x else o)=some y):P:=(Dk h).elim (fun h=>h1 h.1 h.2) h2
def good:GoodPg Tryz.prog pg where
 tok:=tok
 funcs:=qk
 other:=by
  intro f E hE call hC args h S β w vs hr hg hw hh hv;have h0:other f=some E:=hE;unfold other at h0;revert h0
  repeat' refine vG ?_ ?_
  all_goals first
   |(intro h0;cases h0;done)
   |(rintro rfl rfl;exact absurd rfl hr)
   |(rintro rfl rfl;exact⟨Cn call args h S β w vs hr hg hw hh hv,by kernel_rfl⟩)
   |(rintro rfl rfl;exact⟨AE call args h S β w vs hr hg hw hh hv,by kernel_rfl⟩)
   |(rintro rfl rfl;exact⟨AG call args h S β w vs hr hg hw hh hv,by kernel_rfl⟩)
   |(rintro rfl rfl;exact⟨AH call args h S β w vs hr hg hw hh hv,by kernel_rfl⟩)
   |(rintro rfl rfl;exact⟨AJ call args h S β w vs hr hg hw hh hv,by kernel_rfl⟩)
   |(rintro rfl rfl;exact⟨AK call args h S β w vs hr hg hw hh hv,by kernel_rfl⟩)
   |(rintro rfl rfl;exact⟨AF call args h S β w vs hr hg hw hh hv,by kernel_rfl⟩)
   |(rintro rfl rfl;exact⟨AL call args h S β w vs hr hg hw hh hv,by kernel_rfl⟩)
   |(rintro rfl rfl;exact⟨AM call args h S β w vs hr hg hw hh hv,by kernel_rfl⟩)
 nw:=by
  intro f hf;have h0:(bif Nat.beq f 103 then true else false)=true:=hf;cases hb:Nat.beq f 103 with
  |true=>
   have:=Ec hb
   subst this;exact⟨_,rfl,tO T 54⟩
  |false=>rw[hb]at h0;cases h0
end Go.Proofs.YteemeakjlfnapaaGreatDoor
namespace Go.Proofs.YteemeakjlfnapaaGreatDoor
open Go Go.Av Go.ChangeShapes Go.WideShapes Go.ChangeAt Go.RowKit
set_option maxRecDepth 1000000
def Dy:ownKnob Tryz.prog.godebug=none:=by kernel_rfl
def Am{W:World}(hL:laidMetH Tryz.prog Rows.compatClaimsRow.laid W)(hS:W.ShapedOpen Tryz.prog):GOKw W:=by
 have h0:laidMet Tryz.prog Rows.compatClaimsRow.laid W:=hL;have h1:=h0.tail;have h2:=h1.tail;have h3:=h2.tail;have h4:=h3.tail;have hp:=Lib.tabIs_of_head (k:=.u64) (zs:=Lib.pow10Tab) (g:=3) (t:=278) (e:=214) (n:=20) (by kernel_rfl) (by kernel_rfl) (by kernel_rfl) (by kernel_rfl) (by kernel_rfl) (by kernel_rfl) h2;have ha:=Lib.tabIs_of_head (k:=.u8) (zs:=Lib.asciiSpaceTab) (g:=0) (t:=228) (e:=5) (n:=256) (by kernel_rfl) (by kernel_rfl) (by kernel_rfl) (by kernel_rfl) (by kernel_rfl) (by kernel_rfl) h4;have hvar:∀ {name:String} {g:Nat} {cs:Array Value},Tryz.prog.globalNamed name=some g->W.var? Tryz.prog name=some cs->∃t fr,W.heap[g]? = some (.cells cs t fr):=by
  intro name g cs hn hv;unfold World.var? at hv;rw[hn]at hv;simp only[FK]at hv;split at hv
  ·rename_i c t fr hh;simp only[D8]at hv;subst hv;exact⟨t,fr,hh⟩
  ·cases hv
 refine⟨hvar (by kernel_rfl) ha,?_,hvar (by kernel_rfl) hp⟩;exact cell_of_shapedOpen_int (zero:=#[.int .i64 0]) (t:=3) hS (FQ (by kernel_rfl)) (by kernel_rfl) rfl (by kernel_rfl) (by kernel_rfl) Tryz.underlying3
mutual
def gL:DataW Unit->List Value
 |.lit (.bool b)=>[.bool b]
 |.lit (.int k n)=>[.int k n]
 |.lit (.string s)=>[.string ⟨s.toArray⟩]
 |.agg ps=>vU ps
 |_=>[]
def vU:List (DataW Unit)->List Value
 |[]=>[]
 |d:: ds=>gL d++vU ds
end
def sn:List Value:=[9,13,1,32,133,101,160,5760,5600,8192,8202,1,8232,8233,1,8239,8287,48,12288,12288,1].map (Value.int .u16)
noncomputable def low:Nat:=(World.holding Tryz.prog default ⟨#[],#[],[]⟩).heap.size
noncomputable def xo:List (Option (Array Value)):=[some (gL Rows.laid_strings_asciiSpace).toArray,some #[.pointer (some ⟨low,0,none⟩)],
 none,some (gL Rows.laid_internal_strconv_uint64pow10).toArray,none,none,some (gL Rows.laid_math_bits_deBruijn32tab).toArray,some (gL Rows.laid_math_bits_deBruijn64tab).toArray]
def o9:List Obj->List (Option (Array Value))->List Obj
 |.cells _ t fr:: os,some c:: cs=>.cells c t fr:: o9 os cs
 |o:: os,_:: cs=>o:: o9 os cs
 |os,[]=>os
 |[],_=>[]
noncomputable def jZ(os:Os):World:=
 let w0:=World.holding Tryz.prog os ⟨#[.cells #[.slice (some ⟨low+1,0,none⟩) 7 7,.slice none 0 0,.int .i64 2] 267,.cells sn.toArray 270],#[],[]⟩
 { w0 with heap:=(o9 w0.heap.toList xo).toArray }
def wB(os:Os)(args:Array Value):laidMet Tryz.prog Rows.compatClaimsRow.laid ((jZ os).forCall (fun _ _=>0) ⟨#[],args,[]⟩).memory:=
 laidMet_of_run3 8 (by kernel_rfl) (by kernel_rfl) (by kernel_rfl)
end Go.Proofs.YteemeakjlfnapaaGreatDoor
namespace Go.Proofs.YteemeakjlfnapaaGreatDoor
open Go Go.Av Go.Av.Ap Go.RowKit
set_option maxRecDepth 1000000
section
variable {H:Type} {enc:TypeId×Value->H} {W:World}
theorem jz:reachBytes=140737488351232:=rfl
theorem Ty.lim_mk{k:Int}{fs:List eC}(h2:fs.length<=140737488355328)(h3:∀v∈fs,v.2.Lim):(Ty.mk k fs).Lim:=fun j=>match j with
 |0=>trivial
 |j+1=>⟨h2,fun x hx=>h3 x hx j⟩
theorem mr{N:Nat}(h:Rd enc Tryz.prog W N 27 (fun v:Ty=>v.cells) Ty.Lim):Rd enc Tryz.prog W (N+1) 25 (fun l:List eC=>[aS l]) (fun l=>l.length<=140737488355328/\∀v∈l,v.2.Lim):=
 (jy ((fg Tryz.underlying76 (by kernel_rfl) (aQ (kc Tryz.underlying9) rfl (by kernel_rfl:_=1) (aQ h rfl (by kernel_rfl:_=2) fT))).map (fun x=>((x.1,x.2.1):eC)) (cells':=fun f=>ab (cq f)) (Ok':=fun f=>f.2.Lim) (fun x=>by simp[Ty.cells_eq]) (fun x h=>h.2.1))
  Tryz.underlying25 (by kernel_rfl:_=3) (by decide) (by kernel_rfl:_=48) (ev:=cq) (jR fun v=>by rw[fp];rfl)).map id (fun l=>by simp[aS,di]) (fun l h=>⟨by have:=h.1;rw[jz]at this;simp only[id];omega,h.2⟩)
theorem wT:∀N,Rd enc Tryz.prog W N 27 (fun v:Ty=>v.cells) Ty.Lim
 |0=>.zero
 | N+1=>(fg Tryz.underlying27 (by kernel_rfl) (aQ (mu Tryz.underlying3) rfl (by kernel_rfl:_=1) (aQ ((mr (wT N)).le (GQ N)) rfl (by kernel_rfl:_=1) fT))).map (fun x=>Ty.mk x.1 x.2.1)
   (fun x=>by simp[Ty.cells_eq,Ty.kind,Ty.fields]) (fun x h=>Ty.lim_mk h.2.1.1 h.2.1.2)
end
end Go.Proofs.YteemeakjlfnapaaGreatDoor
namespace Go.Proofs.YteemeakjlfnapaaGreatDoor
open Go Go.Av Go.Av.Ap Go.RowKit
set_option maxRecDepth 1000000
section
variable {H:Type} {enc:TypeId×Value->H} {W:World}
theorem tg(N:Nat):Rd enc Tryz.prog W N 35 (fun l:List bG=>[strs l]) (fun l=>l.length<=8796093022208):=
 (jy (kc Tryz.underlying9) Tryz.underlying35 (by kernel_rfl:_=1) (by decide) (by kernel_rfl:_=16) (vV fun _=>rfl)).map id (fun _=>rfl) (fun l h=>by have:=h.1;rw[jz]at this;simp only[id];omega)
theorem Exp.lim_mk{o n:Int}{s m:bG}{ns:List bG}{es:List Exp}(h1:ns.length<=8796093022208)(h2:es.length<=140737488355328)(h3:∀v∈es,v.Lim):(Exp.mk o n s m ns es).Lim:=fun j=>match j with
 |0=>trivial
 |j+1=>⟨h1,h2,fun x hx=>h3 x hx j⟩
theorem mq{N:Nat}(h:Rd enc Tryz.prog W N 47 (fun v:Exp=>v.cells) Exp.Lim):Rd enc Tryz.prog W N 36 (fun l:List Exp=>[ca l]) (fun l=>l.length<=140737488355328/\∀v∈l,v.Lim):=
 (jy h Tryz.underlying36 (by kernel_rfl:_=6) (by decide) (by kernel_rfl:_=96) (ev:=Exp.av) (jR fun v=>rfl)).map id (fun l=>by simp[ca,fl]) (fun l h=>⟨by have:=h.1;rw[jz]at this;simp only[id];omega,h.2⟩)
theorem sq:∀N,Rd enc Tryz.prog W N 47 (fun v:Exp=>v.cells) Exp.Lim
 |0=>.zero
 | N+1=>(fg Tryz.underlying47 (by kernel_rfl) (aQ (mu Tryz.underlying3) rfl (by kernel_rfl:_=1) (aQ (mu Tryz.underlying3) rfl (by kernel_rfl:_=1) (aQ (kc Tryz.underlying9) rfl (by kernel_rfl:_=1) (aQ (kc Tryz.underlying9) rfl (by kernel_rfl:_=1)
   (aQ (tg N) rfl (by kernel_rfl:_=1) (aQ (mq (sq N)) rfl (by kernel_rfl:_=1) fT))))))).map (fun x=>Exp.mk x.1 x.2.1 x.2.2.1 x.2.2.2.1 x.2.2.2.2.1 x.2.2.2.2.2.1) (fun x=>by simp[Exp.cells_eq,Exp.op,Exp.n,Exp.s,Exp.m,Exp.names,Exp.args]) (fun x h=>Exp.lim_mk h.2.2.2.2.1 h.2.2.2.2.2.1.1 h.2.2.2.2.2.1.2)
theorem pd(N:Nat):Rd enc Tryz.prog W N 36 (fun l:List Exp=>[ca l]) (fun l=>l.length<=140737488355328/\∀v∈l,v.Lim):=mq (sq N)
theorem pe(N:Nat):Rd enc Tryz.prog W N 25 (fun l:List eC=>[aS l]) (fun l=>l.length<=140737488355328/\∀v∈l,v.2.Lim):=(mr (wT N)).le (GQ N)
theorem AQ(N:Nat):Rd enc Tryz.prog W (N+1) 73 (fun f:Fun=>ab f.av) Fun.Lim:=
 (fg Tryz.underlying73 (by kernel_rfl) (aQ (kc Tryz.underlying9) rfl (by kernel_rfl:_=1) (aQ (tf Tryz.underlying4) rfl (by kernel_rfl:_=1) (aQ (pe N) rfl (by kernel_rfl:_=1) (aQ (wT N) rfl (by kernel_rfl:_=2)
  (aQ (mu Tryz.underlying3) rfl (by kernel_rfl:_=1) (aQ (sq N) rfl (by kernel_rfl:_=6) fT))))))).map (fun x=>(⟨x.1,x.2.1,x.2.2.1,x.2.2.2.1,x.2.2.2.2.1,x.2.2.2.2.2.1⟩:Fun))
  (fun x=>by simp[Ty.cells_eq,Exp.cells_eq]) (fun x h=>⟨h.2.2.1.1,h.2.2.1.2,h.2.2.2.1,h.2.2.2.2.2.1⟩)
theorem yD(N:Nat):Rd enc Tryz.prog W N 37 (fun l:List Fun=>[bI l]) (fun l=>l.length<=140737488355328/\∀v∈l,v.Lim):=
 ((jy (AQ N) Tryz.underlying37 (by kernel_rfl:_=12) (by decide) (by kernel_rfl:_=184) (ev:=Fun.av) (jR fun v=>rfl)).map id (fun l=>by simp[bI]) (fun l h=>⟨by have:=h.1;rw[jz]at this;simp only[id];omega,h.2⟩)).le (GQ N)
theorem AR(N:Nat):Rd enc Tryz.prog W (N+1) 41 (fun m:Mod=>ab m.av) Mod.Lim:=
 (fg Tryz.underlying41 (by kernel_rfl) (aQ (kc Tryz.underlying9) rfl (by kernel_rfl:_=1) (aQ (tg N) rfl (by kernel_rfl:_=1) (aQ (pe N) rfl (by kernel_rfl:_=1) (aQ (pd N) rfl (by kernel_rfl:_=1)
  (aQ (yD N) rfl (by kernel_rfl:_=1) (aQ (tf Tryz.underlying4) rfl (by kernel_rfl:_=1)
  (aQ ((fg Tryz.underlying39 (by kernel_rfl) (aQ (pe N) rfl (by kernel_rfl:_=1) (aQ (pd N) rfl (by kernel_rfl:_=1) (aQ (pd N) rfl (by kernel_rfl:_=1) fT)))).le (GQ N)) rfl (by kernel_rfl:_=3) fT)))))))).map
  (fun x=>(⟨x.1,x.2.1,x.2.2.1,x.2.2.2.1,x.2.2.2.2.1,x.2.2.2.2.2.1,x.2.2.2.2.2.2.1.1,x.2.2.2.2.2.2.1.2.1,x.2.2.2.2.2.2.1.2.2.1⟩:Mod))
  (fun x=>by simp) (fun x h=>⟨by have:=h.2.1;simp only;omega,h.2.2.1.1,h.2.2.1.2,h.2.2.2.1.1,h.2.2.2.1.2,h.2.2.2.2.1.1,h.2.2.2.2.1.2,h.2.2.2.2.2.2.1.1.1,h.2.2.2.2.2.2.1.1.2,h.2.2.2.2.2.2.1.2.1.1,h.2.2.2.2.2.2.1.2.1.2,h.2.2.2.2.2.2.1.2.2.1.1,h.2.2.2.2.2.2.1.2.2.1.2⟩)
end
end Go.Proofs.YteemeakjlfnapaaGreatDoor
namespace Go.Proofs.YteemeakjlfnapaaGreatDoor
open Go Go.Av Go.Av.Ap
set_option maxRecDepth 100000
@[simp] theorem BP(t:Nat)(a b:Int):ar T .geq t (.int .u8 a) (.int .u8 b)=some (.bool (decide (b<=a))):=rfl
@[simp] theorem BQ(t:Nat)(a b:Int):ar T .leq t (.int .u8 a) (.int .u8 b)=some (.bool (decide (a<=b))):=rfl
@[simp] theorem tr(t:Nat)(a b:bG):ar T .leq t (.str a) (.str b)=some (.bool (aC a b||a== b)):=rfl
def yn(f:AV)(F:eC->Bool)(l:List eC)(hb:l.length<=4611686018427387904)(hf:∀x∈l,de (ai pg) f [cq x]=M.pure (.bool (F x))):∀(n:Nat)(i:Int),l.length-i.toNat=n->0<=i->i<=l.length->
  ak (L189_0 (ai pg) ak) [aS l,f,.int .i64 l.length,.int .i64 i]=M.pure (.int .i64 (cQ F (l.drop i.toNat) i)):=by
 intro n
 induction n with
 |zero=>
  intro i hn hi hl;rw[FL189_0];simp only[L189_0];have h1:¬(i<(l.length:Int)):=by omega
  have h2:l.drop i.toNat=[]:=E0 (by omega);simp[h1,h2,cQ]
 |succ n ih=>
  intro i hn hi hl;have h1:i<(l.length:Int):=by omega
  have hlt:i.toNat<l.length:=by omega
  have h2:cQ F (l.drop i.toNat) i=if F l[i.toNat]=true then i else cQ F (l.drop (i.toNat+1)) (i+1):=by rw[EI hlt];rfl
  have h3:=hf l[i.toNat] (Es hlt);have h4:=ih (i+1) (by omega) (by omega) (by omega);rw[show (i+1).toNat=i.toNat+1 by omega]at h4;rw[FL189_0];simp only[L189_0];simp (disch:=omega) [h1,dw,py,h3,h2];cases F l[i.toNat]
  ·simpa using h4
  ·simp
def t189(f:AV)(F:eC->Bool)(l:List eC)(hb:l.length<=4611686018427387904)(hc:∀g,cl g f=f)(hf:∀x∈l,de (ai pg) f [cq x]=M.pure (.bool (F x))):ai pg 189 [aS l,f]=M.pure (.int .i64 (cQ F l 0)):=by
 rw[C189];simp[S189,hc,yn f F l hb hf l.length 0 rfl (by omega) (by omega)]
def t131(f:AV)(F:eC->Bool)(l:List eC)(hb:l.length<=4611686018427387904)(hc:∀g,cl g f=f)(hf:∀x∈l,de (ai pg) f [cq x]=M.pure (.bool (F x))):ai pg 131 [aS l,f]=M.pure (.bool (l.any F)):=by
 rw[C131];simp[S131,hc,t189 f F l hb hc hf,nJ]
def yp(f:AV)(F:Ty->Bool)(l:List Ty)(hb:l.length<=4611686018427387904)(hf:∀x∈l,de (ai pg) f [Ty.av x]=M.pure (.bool (F x))):∀(n:Nat)(i:Int),l.length-i.toNat=n->0<=i->i<=l.length->
  ak (L204_0 (ai pg) ak) [jK l,f,.int .i64 l.length,.int .i64 i]=M.pure (.int .i64 (cQ F (l.drop i.toNat) i)):=by
 intro n
 induction n with
 |zero=>
  intro i hn hi hl;rw[FL204_0];simp only[L204_0];have h1:¬(i<(l.length:Int)):=by omega
  have h2:l.drop i.toNat=[]:=E0 (by omega);simp[h1,h2,cQ]
 |succ n ih=>
  intro i hn hi hl;have h1:i<(l.length:Int):=by omega
  have hlt:i.toNat<l.length:=by omega
  have h2:cQ F (l.drop i.toNat) i=if F l[i.toNat]=true then i else cQ F (l.drop (i.toNat+1)) (i+1):=by rw[EI hlt];rfl
  have h3:=hf l[i.toNat] (Es hlt);have h4:=ih (i+1) (by omega) (by omega) (by omega);rw[show (i+1).toNat=i.toNat+1 by omega]at h4;rw[FL204_0];simp only[L204_0];simp (disch:=omega) [h1,dw,zk,h3,h2];cases F l[i.toNat]
  ·simpa using h4
  ·simp
def t204(f:AV)(F:Ty->Bool)(l:List Ty)(hb:l.length<=4611686018427387904)(hc:∀g,cl g f=f)(hf:∀x∈l,de (ai pg) f [Ty.av x]=M.pure (.bool (F x))):ai pg 204 [jK l,f]=M.pure (.int .i64 (cQ F l 0)):=by
 rw[C204];simp[S204,hc,yp f F l hb hf l.length 0 rfl (by omega) (by omega)]
def t148(f:AV)(F:Ty->Bool)(l:List Ty)(hb:l.length<=4611686018427387904)(hc:∀g,cl g f=f)(hf:∀x∈l,de (ai pg) f [Ty.av x]=M.pure (.bool (F x))):ai pg 148 [jK l,f]=M.pure (.bool (l.any F)):=by
 rw[C148];simp[S148,hc,t204 f F l hb hc hf,nJ]
def yl(f:AV)(F:Sig->Bool)(l:List Sig)(hb:l.length<=4611686018427387904)(hf:∀x∈l,de (ai pg) f [Sig.av x]=M.pure (.bool (F x))):∀(n:Nat)(i:Int),l.length-i.toNat=n->0<=i->i<=l.length->
  ak (L101_0 (ai pg) ak) [sigs l,f,.int .i64 l.length,.int .i64 i]=M.pure (.int .i64 (cQ F (l.drop i.toNat) i)):=by
 intro n
 induction n with
 |zero=>
  intro i hn hi hl;rw[FL101_0];simp only[L101_0];have h1:¬(i<(l.length:Int)):=by omega
  have h2:l.drop i.toNat=[]:=E0 (by omega);simp[h1,h2,cQ]
 |succ n ih=>
  intro i hn hi hl;have h1:i<(l.length:Int):=by omega
  have hlt:i.toNat<l.length:=by omega
  have h2:cQ F (l.drop i.toNat) i=if F l[i.toNat]=true then i else cQ F (l.drop (i.toNat+1)) (i+1):=by rw[EI hlt];rfl
  have h3:=hf l[i.toNat] (Es hlt);have h4:=ih (i+1) (by omega) (by omega) (by omega);rw[show (i+1).toNat=i.toNat+1 by omega]at h4;rw[FL101_0];simp only[L101_0];simp (disch:=omega) [h1,dw,uF,h3,h2];cases F l[i.toNat]
  ·simpa using h4
  ·simp
def t101(f:AV)(F:Sig->Bool)(l:List Sig)(hb:l.length<=4611686018427387904)(hc:∀g,cl g f=f)(hf:∀x∈l,de (ai pg) f [Sig.av x]=M.pure (.bool (F x))):ai pg 101 [sigs l,f]=M.pure (.int .i64 (cQ F l 0)):=by
 rw[C101];simp[S101,hc,yl f F l hb hf l.length 0 rfl (by omega) (by omega)]
def t199(b:UInt8):ai pg 199 [.int .u8 b.toNat]=M.pure (.bool (kY b)):=by
 rw[C199];have e:decide ((b.toNat:Int)<=122)=decide (b.toNat<=122):=Fv.2 (by omega);have e2:decide (97<=(b.toNat:Int))=decide (97<=b.toNat):=Fv.2 (by omega);simp[S199,kY,e,e2]
def t202(b:UInt8):ai pg 202 [.int .u8 b.toNat]=M.pure (.bool (rN b)):=by
 rw[C202];have e:decide ((b.toNat:Int)<=57)=decide (b.toNat<=57):=Fv.2 (by omega);have e2:decide (48<=(b.toNat:Int))=decide (48<=b.toNat):=Fv.2 (by omega);simp[S202,rN,e,e2]
def t201(b:UInt8):ai pg 201 [.int .u8 b.toNat]=M.pure (.bool (ln b)):=by
 rw[C201];simp[S201,t199,t202,ln]
theorem zd{s:bG}{i:Nat}(h:i<s.length):eg T 9 (.str s) (.int .i64 (i:Int))=some (.int .u8 (s[i].toNat:Int)):=by
 have e1:eg T 9 (.str s) (.int .i64 (i:Int))=(if(i:Int)<0 then none else s[(i:Int).toNat]?.map fun b=>.int .u8 b.toNat):=rfl;rw[e1,if_neg (by omega),En,Ek h];rfl
def yo(F:UInt8->Bool)(f:AV)(s:bG)(hb:s.length<=4611686018427387904)(hf:∀b:UInt8,de (ai pg) f [.int .u8 b.toNat]=M.pure (.bool (F b))):∀(n i:Nat),s.length-i=n->i<=s.length->
  ak (L200_0 (ai pg) ak) [.str s,f,.int .i64 i]=M.pure (.int .i64 ((i+((s.drop i).takeWhile F).length:Nat):Int)):=by
 intro n
 induction n with
 |zero=>
  intro i hn hi;rw[FL200_0];simp only[L200_0];have h1:¬((i:Int)<(s.length:Int)):=by omega
  have h2:s.drop i=[]:=E0 (by omega);simp[h1,h2]
 | succ n ih=>
  intro i hn hi;have hlt:i<s.length:=by omega
  have h1:(i:Int)<(s.length:Int):=by omega
  have h2:s.drop i=s[i]:: s.drop (i+1):=EI hlt;have h4:=ih (i+1) (by omega) (by omega);have hw:IntKind.i64.wrap ((i:Int)+1)=((i+1:Nat):Int):=aX (by omega);rw[FL200_0];simp only[L200_0,bd,bw,C6,aT,bP,h1,Ff,cO,zd hlt,hf,aY,ej,bb,e9,hw,h4,h2,List.takeWhile_cons];cases F s[i]
  ·simp
  ·rw[Ef rfl,Ef rfl];congr 3;simp;omega
def t146(s:bG):ai pg 146 [.str s]=M.pure (.bool (kQ s)):=by
 rw[C146];by_cases hs:s=[]
 ·subst hs;simp[S146,kQ]
 ·have hs':(s== [])=false:=E4.2 hs;have hpos:0<s.length:=FI.2 hs;have h0:=zd (s:=s) (i:=0) hpos;have hd:s[0]=s.headD 0:=by cases s with|nil=>exact absurd rfl hs|cons c s=>rfl
  rw[hd]at h0;simp at h0;by_cases hl:s.length<=20
  ·have h1:=yo ln (.fn (.func 201) [] []) s (by omega) (fun b=>t201 b) s.length 0 (by simp) (by simp);have hsp:ai pg 200 [.str s,.fn (.func 201) [] []]=M.pure (.int .i64 (((s.takeWhile ln).length:Nat):Int)):=by
    rw[C200];simp only[S200,cl,dy];rw[show (AV.int .i64 0)=AV.int .i64 ((0:Nat):Int)from rfl,h1];simp
   have e1:decide (20<(s.length:Int))=false:=by rw[FH];omega
   have e3:decide (20<s.length)=false:=by rw[FH];omega
   have e4:decide (s.length<=20)=true:=by simpa using hl
   simp[S146,hs',h0,t199,hsp,e1,e3,e4,kQ]
  ·have e1:decide (20<(s.length:Int))=true:=by rw[Ej];omega
   have e3:decide (20<s.length)=true:=by rw[Ej];omega
   have e4:decide (s.length<=20)=false:=by simpa using hl
   simp[S146,hs',h0,t199,e1,e3,e4,kQ]
def t147(s:bG):ai pg 147 [.str im,.str s]=M.pure (.bool (Lib.contains im s)):=by
 rw[eH hOther (E:=fK) rfl];rfl
theorem tp(t:Nat)(a b:bG):ar T .add t (.str a) (.str b)=if a.length+b.length<=4611686018427387904 then some (.str (a++b))else none:=rfl
def t76(s:bG):ai pg 76 [.str s]=M.pure (.bool (bv s)):=by
 rw[C76];have h1:=t146 s;unfold bv;cases hw:kQ s with
 |false=>
  rw[hw]at h1;simp[S76,h1]
 |true=>
  have hl:=uD hw;rw[hw]at h1;have h2:=t147 ([32]++s++[32]);unfold im at h2;have e1:ar T .add 9 (.str [32]) (.str s)=some (.str ([32]++s)):=by rw[tp,Ef (by simp;omega)]
  have e2:ar T .add 9 (.str ([32]++s)) (.str [32])=some (.str ([32]++s++[32])):=by rw[tp,Ef (by simp;omega)]
  simp only[S76,rG,h1,aY,cO,e1,aT,e2,h2,kZ,bd,ej,dq,Fi];rfl
def yh{t:Ty}(h:t.Lim)(k:Nat)(hk:k<t.fields.length):(t.fields[k]!).2.Lim:=by
 rw[Eu t.fields k hk];exact h.kid (Es hk)
theorem t116:∀(d:Nat),d<=4->∀(t:Ty),t.Lim->ai pg 116 [t.av,.int .i64 d]=M.pure (.bool (cw d t))
 |0,_,t,_=>by
  rw[C116];simp[S116,cw]
 | d + 1,hd,t,ht=>by
  have ih:=t116 d (by omega);have hlen:=ht.len;have hd1:IntKind.i64.wrap ((((d+1:Nat)):Int)-1)=(d:Int):=oq (by omega);have hloop:=oQ (F:=L116_0 (ai pg) ak) (FL116_0 (ai pg)) (fun k=>[.int .i64 ((d+1:Nat):Int),.ip (ab t.av),aS t.fields,.int .i64 t.fields.length,.int .i64 k]) t.fields.length
   (fun k=>(bv (t.fields[k]!).1&&cw d (t.fields[k]!).2)&&(decide (k=0)||db (t.fields[k-1]!).1 (t.fields[k]!).1))
   (by simp[L116_0]) (fun k hk=>by
    have h1:(k:Int)<(t.fields.length:Int):=by omega
    have hix:=py (l:=t.fields) (n:=(k:Int)) (by omega) h1;rw[En]at hix;have hm:t.fields[k]! ∈t.fields:=by rw[Eu t.fields k hk];exact Es hk
    have h2:=t76 (t.fields[k]!).1;have h3:=ih (t.fields[k]!).2 (yh ht k hk);have hw:IntKind.i64.wrap ((k:Int)+1)=(k:Int)+1:=by rw[aX (by omega)];simp
    have hd0:IntKind.i64.wrap (d:Int)=(d:Int):=xp (by omega);generalize t.fields[k]! = f at hix h2 h3 hm |-;rcases EO k with hk0|hk0
    ·subst hk0;have hix0:au T 25 (aS t.fields) (.int .i64 0)=some (.ip (ab (cq f))):=hix;have hw0:IntKind.i64.wrap 1=1:=rfl;simp[L116_0,hix0,h2,h3,hw0,hd0,hk];cases bv f.1<;>cases cw d f.2<;>simp
    ·have hp:IntKind.i64.wrap ((k:Int)-1)=((k-1:Nat):Int):=by
      rw[dw (by omega) (by omega)];omega
     have h4:((k-1:Nat):Int)<(t.fields.length:Int):=by omega
     have hix2:=py (l:=t.fields) (n:=((k-1:Nat):Int)) (by omega) h4;rw[En]at hix2;generalize t.fields[k-1]! = g at hix2 |-;have hk1:¬k=0:=by omega
     simp[L116_0,h1,hix,h2,h3,hw,hd0,hp,hix2,hk0,hk1,hk];cases bv f.1<;>simp;cases h5:aC f.1 g.1<;>cases cw d f.2<;>by_cases h6:f.1=g.1<;>simp[db,h5,h6]) 0 (EG _)
  have hall:((List.range' 0 t.fields.length).all fun k=>(bv (t.fields[k]!).1&&cw d (t.fields[k]!).2)&&(decide (k=0)||db (t.fields[k-1]!).1 (t.fields[k]!).1))=(t.fields.all (fun f=>bv f.1&&cw d f.2)&&fJ (fun a b=>db a.1 b.1) t.fields):=
   oB (fun f:eC=>bv f.1&&cw d f.2) (fun a b=>db a.1 b.1) t.fields
  rw[Gn,hall]at hloop;rw[C116];have h0:¬((d:Int)+1=0):=by omega
  have hl2:ak (L116_0 (ai pg) ak) [.int .i64 ((d:Int)+1),.ip [.int .i64 t.kind,aS t.fields],aS t.fields,.int .i64 t.fields.length,.int .i64 0]=M.pure (.bool (t.fields.all (fun f=>bv f.1&&cw d f.2)&&fJ (fun a b=>db a.1 b.1) t.fields)):=by
   simpa using hloop
  have hR:cw (d+1) t=if((t.kind<0\/3<=t.kind)\/8<(t.fields.length:Int))\/¬t.kind=2/\0<t.fields.length then false else(t.fields.all (fun f=>bv f.1&&cw d f.2)&&fJ (fun a b=>db a.1 b.1) t.fields):=by
   rw[eQ];generalize (t.fields.all (fun f=>bv f.1&&cw d f.2)&&fJ (fun a b=>db a.1 b.1) t.fields)=q;generalize t.fields.length=n;generalize t.kind=k;split
   ·rename_i hc;cases q
    ·simp
    ·simp only[Gw,GC,FH,FT,E4];rcases hc with((h|h)|h)|h
     ·exact .inl (.inl (.inl (by omega)))
     ·exact .inl (.inl (.inr (by omega)))
     ·exact .inl (.inr (by omega))
     ·exact .inr ⟨h.1,by omega⟩
   ·rename_i hc;have e1:decide (0<=k)=true:=by rw[Ej];omega
    have e2:decide (k<3)=true:=by rw[Ej];omega
    have e3:decide (n<=8)=true:=by rw[Ej];omega
    have e4:(k== 2||n== 0)=true:=by
     rw[Fb,Fe,Fe];omega
    rw[e1,e2,e3,e4];simp
  rw[hR];simp[S116,h0,hl2]
def t47(t:Ty)(ht:t.Lim):ai pg 47 [t.av]=M.pure (.bool (bM t)):=by
 rw[C47];have:ai pg 116 [t.av,.int .i64 4]=M.pure (.bool (cw 4 t)):=t116 4 (by omega) t ht;simp[S47,this]
def t73(t:Ty)(ht:t.Lim):ai pg 73 [t.av]=M.pure (.bool (bM t)):=by
 rw[C73];simp[S73,t47 t ht]
theorem kD:(l:List eC)->ee (cV l)=some (l.map fun f=>(f.1,f.2.kind,cV f.2.fields))
 |[]=>rfl
 |f:: l=>by simp[cV,ee,kD l,fp,qf,aS]
theorem nM{α β:Type}(g:α->β)(p:β->Bool):(l:List α)->cb p (l.map g)=(cb (fun x=>p (g x)) l).map g
 |[]=>rfl
 |x:: l=>by
  simp only[EA,cb,nM g p l];cases cb (fun x=>p (g x)) l with
  |some y=>rfl
  |none=>cases p (g x)<;>rfl
def ty0:Ty:=.mk 0 []
def t181(l:List eC)(hl:l.length<=1000000000)(s:bG):ai pg 181 [aS l,.str s]=M.pure (.tup [((cb (fun f=>f.1== s) l).map (·.2)).getD ty0 |>.av,.bool (cb (fun f=>f.1== s) l).isSome]):=by
 rw[eH hOther (E:=ib) rfl];unfold ib aS;simp only[kD,EH,hl,Ff,D9,sb,nM];cases cb (fun f:eC=>f.1== s) l with
 |none=>rfl
 |some f=>simp[ah,M.pure,Ty.av,Ty.cells_eq,aS];rfl
def Ty.Short:Nat->Ty->Prop
 |0,_=>True
 |n+1,t=>t.fields.length<=1000000000/\∀f∈t.fields,Ty.Short n f.2
theorem gl:∀(d:Nat)(t:Ty),cw d t=true->∀n,Ty.Short n t
 |0,t,h,_=>by cases h
 |d+1,t,h,0=>trivial
 |d+1,t,h,n+1=>by
  rw[eQ]at h;simp only[Ea,Ej,Eg]at h;exact⟨by omega,fun f hf=>gl d f.2 (h.2.1 f hf).2 n⟩
theorem nN{α:Type}{p:α->Bool}:{l:List α} ->{x:α} ->cb p l=some x->x∈l/\p x=true
 |[],x,h=>by cases h
 | y:: l,x,h=>by
  simp only[cb]at h;cases h2:cb p l with
  |some z=>
   rw[h2]at h;cases h
   have:=nN h2
   exact⟨Fa _ this.1,this.2⟩
  |none=>
   rw[h2]at h;cases h3:p y with
   |true=>rw[h3]at h;cases h;exact⟨EV,h3⟩
   |false=>rw[h3]at h;cases h
def kI{α:Type}(P:α->Bool)(l:List α):(!l.any fun x=>!P x)=l.all P:=by simp[List.not_any_eq_all_not]
theorem t125:∀(n:Nat)(b a:Ty),Ty.Short n a->Ty.Short n b->cw n b=true->ai pg 125 [a.av,b.av]=M.pure (.bool (iF a b))
 |0,b,a,_,_,h=>by cases h
 | n+1,b,a,ha,hb,h=>by
  have ih:=t125 n;rw[eQ]at h;simp only[Ea,Ej,Eg]at h;have hf:∀f∈b.fields,de (ai pg) (.fn (.func 186) [] [.ip (ab a.av)]) [cq f]=M.pure (.bool (!(match cb (fun z=>z.1== f.1) a.fields with|some z=>iF z.2 f.2|none=>false))):=by
   intro f hfm;show ai pg 186 [cq f,.ip (ab a.av)]=_;have h1:=t181 a.fields ha.1 f.1;rw[C186];cases hl:cb (fun z:eC=>z.1== f.1) a.fields with
   |none=>
    rw[hl]at h1;simp[S186,h1,cl,dy]
   |some z=>
    rw[hl]at h1;have h2:=ih f.2 z.2 (ha.2 z (nN hl).1) (hb.2 f hfm) (h.2.1 f hfm).2;simp[S186,h1,cl,dy,h2]
  have h2:=t131 (.fn (.func 186) [] [.ip (ab a.av)]) _ b.fields (by have:=hb.1;omega) (fun g=>by simp[cl,dy]) hf;rw[C125,ni];simp at h2;simp[S125,h2];rw[kI];rfl
def t56(a b:Ty)(ha:a.Lim)(hb:b.Lim):ai pg 56 [a.av,b.av]=M.pure (.bool (po a b)):=by
 rw[C56];unfold po;have h1:=t73 a ha;have h2:=t73 b hb;cases r1:bM a with
 |false=>
  rw[r1]at h1;simp[S56,h1]
 | true=>
  cases r2:bM b with
  |false=>
   rw[r1]at h1;rw[r2]at h2;simp[S56,h1,h2]
  |true=>
   rw[r1]at h1;rw[r2]at h2;have h3:=t125 4 b a (gl 4 a r1 4) (gl 4 b r2 4) r2;simp[S56,h1,h2,h3]
def t111(f:AV)(F:Ty->Ty->Bool)(a b:List Ty)(hb:a.length<=4611686018427387904)(hc:∀g,cl g f=f)(hf:∀x∈a,∀y∈b,de (ai pg) f [x.av,y.av]=M.pure (.bool (F x y))):ai pg 111 [jK a,jK b,f]=M.pure (.bool (mO F a b)):=by
 rw[C111];by_cases h:a.length=b.length
 ·have hloop:=oQ (FL111_0 (ai pg)) (fun k=>[jK b,f,jK a,.int .i64 a.length,.int .i64 (k:Int)]) a.length (fun k=>F a[k]! b[k]!)
   (by simp[L111_0]) (fun k hk=>by
    have h1:(k:Int)<(a.length:Int):=by omega
    have h1b:(k:Int)<(b.length:Int):=by omega
    have hixa:=zk (l:=a) (n:=(k:Int)) (by omega) h1;have hixb:=zk (l:=b) (n:=(k:Int)) (by omega) h1b;rw[En]at hixa hixb;have hma:a[k]! ∈a:=by rw[Eu a k hk];exact Es hk
    have hmb:b[k]! ∈b:=by rw[Eu b k (by omega)];exact Es (by omega)
    have h3:=hf _ hma _ hmb;have hw:IntKind.i64.wrap ((k:Int)+1)=(k:Int)+1:=by rw[aX (by omega)];simp
    generalize a[k]! = x at hixa h3 |-;generalize b[k]! = y at hixb h3 |-;simp[L111_0,hk,hixa,hixb,h3,hw];cases F x y<;>simp) 0 (EG _)
  rw[Gn,ll F a b h]at hloop;simp[S111,h,hc]at hloop |-;simp[hloop]
 ·have h2:=ko F a b h;have h3:(a.length != b.length)=true:=by simp[h]
  simp[S111,h3,hc,h2]
@[simp] theorem zT(t:Nat)(a b:Int):ar T .andNot t (.int .i64 a) (.int .i64 b)=some (.int .i64 (dn a b)):=rfl
def t44(a b:Sig)(ha:a.Lim)(hb:b.Lim):ai pg 44 [a.av,b.av]=M.pure (.bool (sL a b)):=by
 rw[C44];have h1:=t111 (.fn (.func 56) [] []) po b.params a.params (by have:=hb.plen;omega) (fun g=>rfl) (fun x hx y hy=>t56 x y (hb.ptys x hx) (ha.ptys y hy));have h2:=t56 a.result b.result ha.result hb.result;unfold sL;cases r1:mO po b.params a.params with
 |false=>
  rw[r1]at h1;simp[S44,h1]
 | true=>
  cases r2:po a.result b.result with
  |false=>
   rw[r1]at h1;rw[r2]at h2;simp[S44,h1,h2]
  |true=>
   rw[r1]at h1;rw[r2]at h2;simp[S44,h1,h2]
def t149(t:Ty)(ht:t.Lim):ai pg 149 [t.av]=M.pure (.bool (!(bM t))):=by
 rw[C149];simp[S149,t47 t ht]
def t77(s:Sig)(hs:s.Lim):ai pg 77 [s.av]=M.pure (.bool (dI s)):=by
 rw[C77];have h1:=t76 s.name;have h2:=t47 s.result hs.result;have h3:=t148 (.fn (.func 149) [] []) (fun t=>!(bM t)) s.params (by have:=hs.plen;omega) (fun g=>rfl) (fun x hx=>t149 x (hs.ptys x hx));unfold dI;rw[<- kI bM s.params];generalize (s.params.any fun x=>!bM x)=q at h3 |-;by_cases g1:bv s.name=true
 ·rw [g1]at h1;by_cases g2:s.params.length<=6
  ·have g2':¬(6<(s.params.length:Int)):=by omega
   have g2n:¬(6<s.params.length):=by omega
   by_cases g3:dn s.effects 15=0
   ·by_cases g4:bM s.result=true
    ·rw[g4]at h2;simp[S77,h1,h2,h3,g1,g2,g2',g2n,g3,g4]
    ·rw[Gi]at g4;rw[g4]at h2;simp[S77,h1,h2,h3,g1,g2,g2',g2n,g3,g4]
   ·have g3':(dn s.effects 15== 0)=false:=E4.2 g3;simp[S77,h1,h2,h3,g1,g2,g2',g2n,g3,g3']
  ·have g2':6<(s.params.length:Int):=by omega
   have g2n:6<s.params.length:=by omega
   simp[S77,h1,h2,h3,g1,g2,g2',g2n]
 ·rw[Gi]at g1;rw[g1]at h1;simp[S77,h1,h2,h3,g1]
theorem t27(f:Face)(hf:f.Lim):ai pg 27 [f.av]=M.pure (.bool (cu f)):=by
 have hlen:=hf.len;have hloop:=oQ (FL27_0 (ai pg)) (fun k=>[.ip (ab f.av),sigs f.funcs,.int .i64 f.funcs.length,.int .i64 (k:Int)]) f.funcs.length
  (fun k=>dI f.funcs[k]! && (decide (k=0)||aC (f.funcs[k-1]!).name (f.funcs[k]!).name))
  (by simp[L27_0]) (fun k hk=>by
   have h1:(k:Int)<(f.funcs.length:Int):=by omega
   have hix:=uF (l:=f.funcs) (n:=(k:Int)) (by omega) h1;rw[En]at hix;have hm:f.funcs[k]! ∈f.funcs:=by rw[Eu f.funcs k hk];exact Es hk
   have h2:=t77 _ (hf.sigs _ hm);have hw:IntKind.i64.wrap ((k:Int)+1)=(k:Int)+1:=by rw[aX (by omega)];simp
   generalize f.funcs[k]! = x at hix h2 hm |-;rcases EO k with hk0|hk0
   ·subst hk0;have hix0:au T 22 (sigs f.funcs) (.int .i64 0)=some (.ip (ab x.av)):=hix;have hw0:IntKind.i64.wrap 1=1:=rfl;simp[L27_0,hix0,h2,hw0,hk];cases dI x<;>simp
   ·have hp:IntKind.i64.wrap ((k:Int)-1)=((k-1:Nat):Int):=by
     rw[dw (by omega) (by omega)];omega
    have h4:((k-1:Nat):Int)<(f.funcs.length:Int):=by omega
    have hix2:=uF (l:=f.funcs) (n:=((k-1:Nat):Int)) (by omega) h4;rw[En]at hix2;generalize f.funcs[k-1]! = g at hix2 |-;have hk1:¬k=0:=by omega
    simp[L27_0,h1,hix,h2,hw,hp,hix2,hk0,hk1,hk];cases dI x<;>cases aC g.name x.name<;>simp) 0 (EG _)
 have hall:((List.range' 0 f.funcs.length).all fun k=>dI f.funcs[k]! && (decide (k=0)||aC (f.funcs[k-1]!).name (f.funcs[k]!).name))=(f.funcs.all dI&&fJ (fun a b=>aC a.name b.name) f.funcs):=
  oB dI (fun a b=>aC a.name b.name) f.funcs
 rw[Gn,hall]at hloop;have hl2:ak (L27_0 (ai pg) ak) [.ip [.str f.module,sigs f.funcs],sigs f.funcs,.int .i64 f.funcs.length,.int .i64 0]=M.pure (.bool (f.funcs.all dI&&fJ (fun a b=>aC a.name b.name) f.funcs)):=by
  simpa using hloop
 rw[C27];have h1:=t76 f.module;unfold cu;by_cases g1:bv f.module=true
 ·rw[g1]at h1;by_cases g2:f.funcs.length<=30
  ·have g2':¬(30<(f.funcs.length:Int)):=by omega
   have g2n:¬(30<f.funcs.length):=by omega
   simp[S27,h1,g1,g2,g2',g2n,hl2]
  ·have g2':30<(f.funcs.length:Int):=by omega
   have g2n:30<f.funcs.length:=by omega
   simp[S27,h1,g1,g2,g2',g2n]
 ·rw[Gi]at g1;rw[g1]at h1;simp[S27,h1,g1]
def iK{F:(List AV->M AV)->List AV->M AV}(hF:∀vs,ak F vs=F (ak F) vs)(st:Nat->List AV)(n:Nat)(hend:∃b,F (ak F) (st n)=M.pure (.bool b))(hstep:∀k,k<n->(∃b,F (ak F) (st k)=M.pure (.bool b))\/F (ak F) (st k)=ak F (st (k+1))):
  ∀k,k<=n->∃b,ak F (st k)=M.pure (.bool b):=by
 have key:∀r k,n-k=r->k<=n->∃b,ak F (st k)=M.pure (.bool b):=by
  intro r
  induction r with
  |zero=>
   intro k hr hk;obtain rfl:k=n:=by omega
   rw[hF];exact hend
  | succ r ih=>
   intro k hr hk;rw[hF];rcases hstep k (by omega)with h|h
   ·exact h
   ·rw[h];exact ih (k+1) (by omega) (by omega)
 exact fun k hk=>key (n-k) k rfl hk
def oh{t:Ty}{f:eC}(h:f∈t.fields):SizeOf.sizeOf f.2<SizeOf.sizeOf t:=by
 cases t with
 |mk k fs=>
  have h1:=List.sizeOf_lt_of_mem (show f∈fs from h);obtain⟨a,b⟩:=f;show SizeOf.sizeOf b<_;simp at h1 |-;omega
def Dp:∀(n:Nat)(t:Ty),SizeOf.sizeOf t<=n->t.Lim->∀most:Int,0<=most->most<=1000->∃r:Int,ai pg 62 [t.av,.int .i64 most]=M.pure (.int .i64 r)/\1<=r/\r<=most+1:=by
 intro n
 induction n with
 |zero=>
  intro t h;cases t;simp at h
 | succ n ih=>
  intro t hs ht most h0 h1;have hlen:=ht.len;have hl:∀(k i:Nat),t.fields.length-i=k->i<=t.fields.length->∀m:Int,1<=m->m<=most+1->∃r:Int,ak (L62_0 (ai pg) ak) [.int .i64 most,.ip (ab t.av),.int .i64 m,.int .i64 i]=M.pure (.int .i64 r)/\1<=r/\r<=most+1:=by
   intro k
   induction k with
   |zero=>
    intro i hk hi m hm1 hm2;rw[FL62_0];have h1:¬((i:Int)<(t.fields.length:Int)):=by omega
    exact⟨m,by simp[L62_0,h1],hm1,hm2⟩
   | succ k ihk=>
    intro i hk hi m hm1 hm2;rw[FL62_0];have hlt:i<t.fields.length:=by omega
    have h1':(i:Int)<(t.fields.length:Int):=by omega
    by_cases hm:m<=most
    ·have hix:=py (l:=t.fields) (n:=(i:Int)) (by omega) h1';rw[En,Eu t.fields i hlt]at hix;have hm':=Es hlt;generalize t.fields[i]=f at hix hm';have hsz:=oh hm';obtain⟨r,e1,e2,e3⟩:=ih f.2 (by omega) (ht.kid hm') (most-m) (by omega) (by omega);obtain⟨r2,g1,g2,g3⟩:=ihk (i+1) (by omega) (by omega) (m+r) (by omega) (by omega);have w1:IntKind.i64.wrap (most-m)=most-m:=dw (by omega) (by omega);have w2:IntKind.i64.wrap (m+r)=m+r:=dw (by omega) (by omega);have w3:IntKind.i64.wrap ((i:Int)+1)=((i+1:Nat):Int):=aX (by omega);refine⟨r2,?_,g2,g3⟩;rw[<- g1];simp only[L62_0,bd,bw,cS,FA27_1,aT,Fu,ER,LD25,uJ,bP,iV,h1',hm,Ff,cO,aY,ej,bb,EW,hix,d9,FA76_1,LD27,Et,Ex,Er,Nat.reduceAdd,Eb,EL,EY,eE,oE,w1,e1,e9,w2,w3]
    ·exact⟨m,by simp[L62_0,h1',hm],hm1,hm2⟩
  obtain⟨r,e1,e2,e3⟩:=hl t.fields.length 0 rfl (by omega) 1 (by omega) (by omega);refine⟨r,?_,e2,e3⟩;rw[C62];have e1':ak (L62_0 (ai pg) ak) [.int .i64 most,.ip (ab t.av),.int .i64 1,.int .i64 0]=M.pure (.int .i64 r):=e1;simp only[S62,pQ,oG,e1',qv]
def Dq:∀(n:Nat)(t:Ty),SizeOf.sizeOf t<=n->t.Lim->∃b,ai pg 63 [t.av]=M.pure (.bool b):=by
 intro n
 induction n with
 |zero=>
  intro t h;cases t;simp at h
 | succ n ih=>
  intro t hs ht;have hlen:=ht.len;obtain⟨b,hb⟩:=iK (FL63_0 (ai pg)) (fun k=>[.ip (ab t.av),.int .i64 (k:Int)]) t.fields.length ⟨true,by simp[L63_0]⟩ (fun k hk=>by
   have h1:(k:Int)<(t.fields.length:Int):=by omega
   have hix:=py (l:=t.fields) (n:=(k:Int)) (by omega) h1;rw[En,Eu t.fields k hk]at hix;have hm':=Es hk;generalize t.fields[k]=f at hix hm';have hsz:=oh hm';have w3:IntKind.i64.wrap ((k:Int)+1)=(k:Int)+1:=by rw[aX (by omega)];simp
   obtain⟨b,hb⟩:=ih f.2 (by omega) (ht.kid hm');by_cases hn:30<(f.1.length:Int)
   ·refine .inl ⟨false,?_⟩;have hn':30<f.1.length:=by omega
    simp[L63_0,h1,hk,hix,hn,hn']
   ·have hn':¬30<f.1.length:=by omega
    cases b with
    |false=>exact .inl ⟨false,by simp[L63_0,h1,hk,hix,hn,hn',hb]⟩
    |true=>exact .inr (by simp[L63_0,h1,hk,hix,hn,hn',hb,w3])) 0 (EG _)
  refine⟨b,?_⟩;rw[C63];have hb':ak (L63_0 (ai pg) ak) [.ip (ab t.av),.int .i64 0]=M.pure (.bool b):=hb;simp only[S63,pQ,hb',dq]
def B6(t:Ty)(ht:t.Lim):∃b,ai pg 16 [t.av]=M.pure (.bool b):=by
 obtain⟨r,e1,e2,e3⟩:=Dp _ t (Eb _) ht 40 (by omega) (by omega);obtain⟨b,hb⟩:=Dq _ t (Eb _) ht;rw[C16];by_cases h:r<=40
 ·exact⟨b,by simp[S16,e1,hb,h]⟩
 ·exact⟨false,by simp[S16,e1,h]⟩
def qX{e x:Exp}(h:x∈e.args):SizeOf.sizeOf x<SizeOf.sizeOf e:=by
 cases e with
 |mk o n s m ns es=>
  have h1:SizeOf.sizeOf x<SizeOf.sizeOf es:=List.sizeOf_lt_of_mem h;simp only[Exp.mk.sizeOf_spec];omega
def B7:∀(n:Nat)(e:Exp),SizeOf.sizeOf e<=n->e.Lim->∀most:Int,0<=most->most<=1000->∃r:Int,ai pg 187 [e.av,.int .i64 most]=M.pure (.int .i64 r)/\1<=r/\r<=most+1:=by
 intro n
 induction n with
 |zero=>
  intro e h;cases e;simp at h
 | succ n ih=>
  intro e hs he most h0 h1;have hlen:=he.len;have hl:∀(k i:Nat),e.args.length-i=k->i<=e.args.length->∀m:Int,1<=m->m<=most+1->∃r:Int,ak (L187_0 (ai pg) ak) [.int .i64 most,.ip (ab e.av),.int .i64 m,.int .i64 i]=M.pure (.int .i64 r)/\1<=r/\r<=most+1:=by
   intro k
   induction k with
   |zero=>
    intro i hk hi m hm1 hm2;rw[FL187_0];have h1:¬((i:Int)<(e.args.length:Int)):=by omega
    exact⟨m,by simp[L187_0,h1],hm1,hm2⟩
   | succ k ihk=>
    intro i hk hi m hm1 hm2;rw[FL187_0];have hlt:i<e.args.length:=by omega
    have h1':(i:Int)<(e.args.length:Int):=by omega
    by_cases hm:m<=most
    ·have hix:=uH (l:=e.args) (n:=(i:Int)) (by omega) h1';rw[En,Eu e.args i hlt]at hix;have hm':=Es hlt;generalize e.args[i]=f at hix hm';have hsz:=qX hm';obtain⟨r,e1,e2,e3⟩:=ih f (by omega) (he.kid hm') (most-m) (by omega) (by omega);obtain⟨r2,g1,g2,g3⟩:=ihk (i+1) (by omega) (by omega) (m+r) (by omega) (by omega);have w1:IntKind.i64.wrap (most-m)=most-m:=dw (by omega) (by omega);have w2:IntKind.i64.wrap (m+r)=m+r:=dw (by omega) (by omega);have w3:IntKind.i64.wrap ((i:Int)+1)=((i+1:Nat):Int):=aX (by omega);refine⟨r2,?_,g2,g3⟩;rw[<- g1];simp only[L187_0,bd,bw,cv,FA47_5,aT,Fu,ER,LD36,zo,bP,iV,h1',hm,Ff,cO,aY,ej,bb,EW,hix,LD47,Et,Ex,Er,Nat.reduceAdd,Eb,EL,EY,dB,oE,w1,e1,e9,w2,w3]
    ·exact⟨m,by simp[L187_0,h1',hm],hm1,hm2⟩
  obtain⟨r,e1,e2,e3⟩:=hl e.args.length 0 rfl (by omega) 1 (by omega) (by omega);refine⟨r,?_,e2,e3⟩;rw[C187];have e1':ak (L187_0 (ai pg) ak) [.int .i64 most,.ip (ab e.av),.int .i64 1,.int .i64 0]=M.pure (.int .i64 r):=e1;simp only[S187,rE,oG,e1',qv]
def B8:∀(n:Nat)(e:Exp),SizeOf.sizeOf e<=n->e.Lim->∃b,ai pg 188 [e.av]=M.pure (.bool b):=by
 intro n
 induction n with
 |zero=>
  intro e h;cases e;simp at h
 | succ n ih=>
  intro e hs he;have hlen:=he.len;have hnl:=he.names;have end0:∃b,L188_0 (ai pg) ak (ak (L188_0 (ai pg) ak)) [.ip (ab e.av),.int .i64 (e.args.length:Int)]=M.pure (.bool b):=by
   exact⟨decide ((e.s.length:Int)<=30)&&decide ((e.m.length:Int)<=30)&&decide ((e.names.length:Int)<=12),by simp[L188_0]⟩
  obtain⟨b0,hb0⟩:=iK (FL188_0 (ai pg)) (fun k=>[.ip (ab e.av),.int .i64 (k:Int)]) e.args.length end0 (fun k hk=>by
   have h1:(k:Int)<(e.args.length:Int):=by omega
   have hix:=uH (l:=e.args) (n:=(k:Int)) (by omega) h1;rw[En,Eu e.args k hk]at hix;have hm':=Es hk;generalize e.args[k]=f at hix hm';have hsz:=qX hm';have w3:IntKind.i64.wrap ((k:Int)+1)=(k:Int)+1:=by rw[aX (by omega)];simp
   obtain⟨b,hb⟩:=ih f (by omega) (he.kid hm');cases b with
   |false=>exact .inl ⟨false,by simp[L188_0,h1,hk,hix,hb]⟩
   |true=>exact .inr (by simp[L188_0,h1,hk,hix,hb,w3])) 0 (EG _)
  have hb0':ak (L188_0 (ai pg) ak) [.ip (ab e.av),.int .i64 0]=M.pure (.bool b0):=hb0;simp only[cv]at hb0';obtain⟨b,hb⟩:=iK (FL188_1 (ai pg)) (fun k=>[.ip (ab e.av),.int .i64 (k:Int)]) e.names.length ⟨b0,by simp[L188_1,hb0']⟩ (fun k hk=>by
   have h1:(k:Int)<(e.names.length:Int):=by omega
   have hix:=uG (l:=e.names) (n:=(k:Int)) (by omega) h1;rw[En,Eu e.names k hk]at hix;generalize e.names[k]=f at hix;have w3:IntKind.i64.wrap ((k:Int)+1)=(k:Int)+1:=by rw[aX (by omega)];simp
   by_cases h12:k<=12
   ·have h12':(k:Int)<=12:=by omega
    by_cases h30:30<f.length
    ·have h30':30<(f.length:Int):=by omega
     exact .inl ⟨false,by simp[L188_1,h1,hk,hix,h12,h12',h30,h30']⟩
    ·have h30':¬30<(f.length:Int):=by omega
     exact .inr (by simp[L188_1,h1,hk,hix,h12,h12',h30,h30',w3])
   ·have h12':¬(k:Int)<=12:=by omega
    exact .inl ⟨b0,by simp[L188_1,h1,hk,h12,h12',hb0']⟩) 0 (EG _)
  refine⟨b,?_⟩;rw[C188];have hb':ak (L188_1 (ai pg) ak) [.ip (ab e.av),.int .i64 0]=M.pure (.bool b):=hb;simp only[S188,rE,hb',dq]
def zb(e:Exp)(he:e.Lim):∃b,ai pg 127 [e.av]=M.pure (.bool b):=by
 obtain⟨r,e1,e2,e3⟩:=B7 _ e (Eb _) he 120 (by omega) (by omega);obtain⟨b,hb⟩:=B8 _ e (Eb _) he;rw[C127];by_cases h:r<=120
 ·exact⟨b,by simp[S127,e1,hb,h]⟩
 ·exact⟨false,by simp[S127,e1,h]⟩
def wb(l:List eC)(hb:l.length<=140737488355328)(ht:∀f∈l,f.2.Lim):∃b,ai pg 126 [aS l]=M.pure (.bool b):=by
 obtain⟨b,hb⟩:=iK (FL126_0 (ai pg)) (fun k=>[aS l,.int .i64 (k:Int)]) l.length ⟨decide ((l.length:Int)<=10),by simp[L126_0]⟩ (fun k hk=>by
  have h1:(k:Int)<(l.length:Int):=by omega
  have hix:=py (l:=l) (n:=(k:Int)) (by omega) h1;rw[En,Eu l k hk]at hix;have hm':=Es hk;generalize l[k]=f at hix hm';have w3:IntKind.i64.wrap ((k:Int)+1)=(k:Int)+1:=by rw[aX (by omega)];simp
  obtain⟨b,hb⟩:=B6 f.2 (ht f hm');by_cases h9:k<=10
  ·have h9':(k:Int)<=10:=by omega
   by_cases h30:30<f.1.length
   ·have h30':30<(f.1.length:Int):=by omega
    exact .inl ⟨false,by simp[L126_0,h1,hk,hix,h9,h9',h30,h30']⟩
   ·have h30':¬30<(f.1.length:Int):=by omega
    cases b with
    |false=>exact .inl ⟨false,by simp[L126_0,h1,hk,hix,hb,h9,h9',h30,h30']⟩
    |true=>exact .inr (by simp[L126_0,h1,hk,hix,hb,h9,h9',h30,h30',w3])
  ·have h9':¬(k:Int)<=10:=by omega
   exact .inl ⟨decide ((l.length:Int)<=10),by simp[L126_0,h1,hk,h9,h9']⟩) 0 (EG _)
 refine⟨b,?_⟩;rw[C126];have hb':ak (L126_0 (ai pg) ak) [aS l,.int .i64 0]=M.pure (.bool b):=hb;simp only[S126,kU,hb',dq]
def wd(l:List Exp)(hb:l.length<=140737488355328)(ht:∀f∈l,f.Lim):∃b,ai pg 128 [ca l]=M.pure (.bool b):=by
 obtain⟨b,hb⟩:=iK (FL128_0 (ai pg)) (fun k=>[ca l,.int .i64 (k:Int)]) l.length ⟨decide ((l.length:Int)<=10),by simp[L128_0]⟩ (fun k hk=>by
  have h1:(k:Int)<(l.length:Int):=by omega
  have hix:=uH (l:=l) (n:=(k:Int)) (by omega) h1;rw[En,Eu l k hk]at hix;have hm':=Es hk;generalize l[k]=f at hix hm';have w3:IntKind.i64.wrap ((k:Int)+1)=(k:Int)+1:=by rw[aX (by omega)];simp
  obtain⟨b,hb⟩:=zb f (ht f hm');by_cases h9:k<=10
  ·have h9':(k:Int)<=10:=by omega
   cases b with
   |false=>exact .inl ⟨false,by simp[L128_0,h1,hk,hix,hb,h9,h9']⟩
   |true=>exact .inr (by simp[L128_0,h1,hk,hix,hb,h9,h9',w3])
  ·have h9':¬(k:Int)<=10:=by omega
   exact .inl ⟨decide ((l.length:Int)<=10),by simp[L128_0,h1,hk,h9,h9']⟩) 0 (EG _)
 refine⟨b,?_⟩;rw[C128];have hb':ak (L128_0 (ai pg) ak) [ca l,.int .i64 0]=M.pure (.bool b):=hb;simp only[S128,xR,hb',dq]
def Do(m:Ap.Mod)(hm:m.Lim):∃b,ai pg 51 [m.av]=M.pure (.bool b):=by
 have u1:=hm.uses;have f1:=hm.funcs;obtain⟨b1,e1⟩:=wb m.vars hm.vars hm.vty;obtain⟨b2,e2⟩:=wd m.init hm.init hm.ies;obtain⟨b3,e3⟩:=wb m.old hm.old hm.oty;obtain⟨b4,e4⟩:=wd m.forward hm.forward hm.fes;obtain⟨b5,e5⟩:=wd m.back hm.back hm.bes
 have end0:∃b,∀k:Nat,(k=m.uses.length\/14<k)->L51_0 (ai pg) ak (ak (L51_0 (ai pg) ak)) [.ip (ab m.av),.int .i64 (k:Int)]=M.pure (.bool b):=by
  have hg:∀k:Nat,(k=m.uses.length\/14<k)->(k<m.uses.length->¬k<=14):=by intro k h;omega
  have key:∀k:Nat,(k=m.uses.length\/14<k)->∀ {b:Bool},(L51_0 (ai pg) ak (ak (L51_0 (ai pg) ak)) [.ip (ab m.av),.int .i64 (m.uses.length:Int)]=M.pure (.bool b))->L51_0 (ai pg) ak (ak (L51_0 (ai pg) ak)) [.ip (ab m.av),.int .i64 (k:Int)]=M.pure (.bool b):=by
   intro k h b hb;rw[<- hb];by_cases hk:k<m.uses.length
   ·have h14:¬(k:Int)<=14:=by omega
    simp[L51_0,hk,h14]
   ·simp[L51_0,hk]
  have base:∃b,L51_0 (ai pg) ak (ak (L51_0 (ai pg) ak)) [.ip (ab m.av),.int .i64 (m.uses.length:Int)]=M.pure (.bool b):=by
   cases hq:(decide ((m.name.length:Int)<=30)&&decide ((m.uses.length:Int)<=14)&&decide ((m.funcs.length:Int)<=8))with
   |false=>exact⟨false,by simp[L51_0];rw[hq];simp⟩
   | true=>cases b1 with
    |false=>exact⟨false,by simp[L51_0];rw[hq];simp[e1]⟩
    | true=>cases b2 with
     |false=>exact⟨false,by simp[L51_0];rw[hq];simp[e1,e2]⟩
     | true=>cases b3 with
      |false=>exact⟨false,by simp[L51_0];rw[hq];simp[e1,e2,e3]⟩
      |true=>cases b4 with
       |false=>exact⟨false,by simp[L51_0];rw[hq];simp[e1,e2,e3,e4]⟩
       |true=>exact⟨b5,by simp[L51_0];rw[hq];simp[e1,e2,e3,e4,e5]⟩
  obtain⟨b,hb⟩:=base;exact⟨b,fun k hk=>key k hk hb⟩
 obtain⟨bE,hE⟩:=end0;obtain⟨b0,hb0⟩:=iK (FL51_0 (ai pg)) (fun k=>[.ip (ab m.av),.int .i64 (k:Int)]) m.uses.length ⟨bE,hE _ (.inl rfl)⟩ (fun k hk=>by
  have h1:(k:Int)<(m.uses.length:Int):=by omega
  have hix:=uG (l:=m.uses) (n:=(k:Int)) (by omega) h1;rw[En,Eu m.uses k hk]at hix;generalize m.uses[k]=f at hix;have w3:IntKind.i64.wrap ((k:Int)+1)=(k:Int)+1:=by rw[aX (by omega)];simp
  by_cases h12:k<=14
  ·have h12':(k:Int)<=14:=by omega
   by_cases h30:30<f.length
   ·have h30':30<(f.length:Int):=by omega
    exact .inl ⟨false,by simp[L51_0,h1,hk,hix,h12,h12',h30,h30']⟩
   ·have h30':¬30<(f.length:Int):=by omega
    exact .inr (by simp[L51_0,h1,hk,hix,h12,h12',h30,h30',w3])
  ·exact .inl ⟨bE,hE k (.inr (by omega))⟩) 0 (EG _)
 have hb0':ak (L51_0 (ai pg) ak) [.ip (ab m.av),.int .i64 0]=M.pure (.bool b0):=hb0;simp only[bZ]at hb0';obtain⟨b,hb⟩:=iK (FL51_1 (ai pg)) (fun k=>[.ip (ab m.av),.int .i64 (k:Int)]) m.funcs.length ⟨b0,by simp[L51_1,hb0']⟩ (fun k hk=>by
  have h1:(k:Int)<(m.funcs.length:Int):=by omega
  have hix:=uI (l:=m.funcs) (n:=(k:Int)) (by omega) h1;rw[En,Eu m.funcs k hk]at hix;have hm':=Es hk;generalize m.funcs[k]=f at hix hm';have hf:=hm.fns f hm';have w3:IntKind.i64.wrap ((k:Int)+1)=(k:Int)+1:=by rw[aX (by omega)];simp
  have hcf:aU 12 f.av=M.pure f.av:=by rw[bo (eO f),dE,eJ]
  obtain⟨c1,g1⟩:=wb f.params hf.params hf.pty;obtain⟨c2,g2⟩:=B6 f.result hf.result;obtain⟨c3,g3⟩:=zb f.body hf.body;by_cases h12:k<=8
  ·have h12':(k:Int)<=8:=by omega
   by_cases h30:30<f.name.length
   ·have h30':30<(f.name.length:Int):=by omega
    exact .inl ⟨false,by simp[L51_1,h1,hk,hix,h12,h12',h30,h30',hcf]⟩
   ·have h30':¬30<(f.name.length:Int):=by omega
    cases c1 with
    |false=>exact .inl ⟨false,by simp[L51_1,h1,hk,hix,h12,h12',h30,h30',hcf,g1]⟩
    | true=>cases c2 with
     |false=>exact .inl ⟨false,by simp[L51_1,h1,hk,hix,h12,h12',h30,h30',hcf,g1,g2]⟩
     |true=>cases c3 with
      |false=>exact .inl ⟨false,by simp[L51_1,h1,hk,hix,h12,h12',h30,h30',hcf,g1,g2,g3]⟩
      |true=>exact .inr (by simp[L51_1,h1,hk,hix,h12,h12',h30,h30',hcf,g1,g2,g3,w3])
  ·have h12':¬(k:Int)<=8:=by omega
   exact .inl ⟨b0,by simp[L51_1,h1,hk,h12,h12',hb0']⟩) 0 (EG _)
 refine⟨b,?_⟩;rw[C51];have hb':ak (L51_1 (ai pg) ak) [.ip (ab m.av),.int .i64 0]=M.pure (.bool b):=hb;simp only[S51,jQ,hb',dq]
def cB{α β:Type}{m:M α}{a:α}{h h':Hp}(e:m h= .ok a h')(f:α->M β):af m f h=f a h':=by simp only[af,e]
def BS(x:Ty):(ab x.av).length=2:=by simp
def t104(t:Ty)(h:bM t=true):ai pg 104 [t.av]=M.pure t.av:=by
 have e0:ai pg 104 [t.av]=hM (ai pg) [t.av]:=eH hOther rfl _;rw[e0];simp only[hM,xl 5 t (wG 4 t (nR 4 t h)),D9];rfl
theorem lN{α:Type}(F:α->Bool):(l:List α)->(i:Int)->(l.find? F=none/\cQ F l i= -1)\/∃(k:Nat)(x:α),l.find? F=some x/\l[k]? = some x/\cQ F l i=i+k
 |[],i=>.inl ⟨rfl,rfl⟩
 | x:: l,i=>by
  cases h:F x with
  |true=>exact .inr ⟨0,x,by simp[h],rfl,by simp[cQ,h]⟩
  |false=>
   rcases lN F l (i+1)with⟨h1,h2⟩|⟨k,y,h1,h2,h3⟩
   ·exact .inl ⟨by simp[h,h1],by simp[cQ,h,h2]⟩
   ·exact .inr ⟨k+1,y,by simp[h,h1],by simpa using h2,by simp[cQ,h,h3];omega⟩
theorem Du{q n i:Nat}(h:i<n):au T 54 (.hs q 0 n 2 true) (.int .i64 (i:Int))=some (.hp q (0+i*2)):=by
 have e:au T 54 (.hs q 0 n 2 true) (.int .i64 (i:Int))=if 0<=(i:Int)/\(i:Int)<(n:Int)then some (.hp q (0+(i:Int).toNat*2))else none:=rfl;rw[e,Ef (by omega),En]
def yj{q:Nat}{l:List Ty}{i:Nat}{h:Hp}(hi:i<l.length)(hq:h[q]? = some (rowOf Ty.av l)):gy T 27 (.hp q (0+i*2)) h= .ok l[i].av h:=by
 have hlen:=ew (f:=Ty.av) BS l;rw[uj (T:=T) (t:=27) rfl rfl hq (show 0+i*2+2<=_ by omega)];show R.ok (AV.agg (((rowOf Ty.av l).drop (0+i*2)).take 2)) h=_;rw[Er,eR BS l i hi,cS,eE]
def uB{q:Nat}{l:List Ty}{i:Nat}{h:Hp}(hi:i<l.length)(hq:h[q]? = some (rowOf Ty.av l)):gq T 27 (.hp q (0+i*2)) l[i].av h= .ok (.tup []) h:=by
 have hlen:=ew (f:=Ty.av) BS l;refine q5 (T:=T) (t:=27) rfl hq (Ap.ig _) (show 0+i*2+2<=_ by omega) (by decide) ?_;rw[cS];show ((rowOf Ty.av l).drop (0+i*2)).take 2=_;rw[Er,eR BS l i hi,cS]
def Ax(l:List Ty)(hb:l.length<=4611686018427387904)(hk:∀t∈l,ai pg 104 [t.av]=M.pure t.av)(q:Nat)(h:Hp)(hq:h[q]? = some (rowOf Ty.av l))(x3 x4 x5 x6 x7:AV)(nm:bG)(k e:Int)(fs:List eC):∀(n i:Nat),l.length-i=n->i<=l.length->
  ak (L37_0 (ai pg) ak) [.hs q 0 l.length 2 true,.int .i64 l.length,.int .i64 i,x3,x4,x5,x6,x7,.str nm,.hs q 0 l.length 2 true,.int .i64 k,aS fs,.int .i64 e] h= .ok (.tup [.agg [.str nm,.hs q 0 l.length 2 true,.int .i64 k,aS fs,.int .i64 e],.bool true]) h:=by
 intro n
 induction n with
 |zero=>
  intro i hn hi;rw[FL37_0];have h1:¬((i:Int)<(l.length:Int)):=by omega
  have h2:az 5 [] (.agg [.str nm,.hs q 0 l.length 2 true,.int .i64 k,aS fs,.int .i64 e])=M.pure (.agg [.str nm,.hs q 0 l.length 2 true,.int .i64 k,aS fs,.int .i64 e]):=aV rfl;simp[L37_0,h1,h2,M.pure]
 |succ n ih=>
  intro i hn hi;have hlt:i<l.length:=by omega
  have h1:(i:Int)<(l.length:Int):=by omega
  have ih':=ih (i+1) (by omega) (by omega);have hw:IntKind.i64.wrap ((i:Int)+1)=((i+1:Nat):Int):=aX (by omega);have hc:=hk l[i] (Es hlt);rw[<- ih'];generalize hcode:ak (L37_0 (ai pg) ak) [.hs q 0 l.length 2 true,.int .i64 l.length,.int .i64 i,x3,x4,x5,x6,x7,.str nm,.hs q 0 l.length 2 true,.int .i64 k,aS fs,.int .i64 e] h=code;rw[FL37_0]at hcode;simp -implicitDefEqProofs only[L37_0,bd,bw,bP,aT,bb,h1,Ff,EW,Du hlt]at hcode;rw[cB (yj hlt hq)]at hcode;simp -implicitDefEqProofs only[Av.tM,aY,cS,aT,LD27,Et,Ex,Er,Nat.reduceAdd,Eb,EW,EL,EY,eE,hc,ge]at hcode;rw[show (i*2)=0+i*2 by omega]at hcode;rw[cB (uB hlt hq)]at hcode;simp -implicitDefEqProofs only[e9,aT,hw]at hcode;rw[<- hcode]
def qW:Sig:=⟨[],[],ty0,0⟩
def t102(s:Sig)(name:bG):ai pg 102 [s.av,.ip [.str name]]=M.pure (.bool (s.name== name)):=by
 rw[C102];simp[S102,cl,dy]
theorem t37(f:Face)(hf:f.Lim)(hr:cu f=true)(name:bG):ai pg 37 [f.av,.str name]=M.pure (match iy f name with
  |some s=>.tup [s.av,.bool true]
  |none=>.tup [qW.av,.bool false]):=by
 have hlen:=hf.len;have h1:=t101 (.fn (.func 102) [] [.ip [.str name]]) (fun s=>s.name== name) f.funcs (by omega) (fun g=>rfl) (fun x _=>t102 x name);unfold cu at hr;simp only[Ea,Eg]at hr;rw[C37];unfold iy;rcases lN (fun s:Sig=>s.name== name) f.funcs 0 with⟨h2,h3⟩|⟨k,s,h2,h3,h4⟩
 ·rw[h3]at h1;rw[h2];have e1:cE T false 56 []=some qW.av:=rfl;simp[S37,cl,h1,e1];exact bB fun g=>by simp[cl,dy]
 ·have hm:s∈f.funcs:=Fl h3;have hrs:=hr.2.1 s hm;unfold dI at hrs;simp only[Ea,Ej,Eg]at hrs;obtain⟨⟨⟨⟨_,hpl⟩,_⟩,hrr⟩,hps⟩:=hrs;have hk:k<f.funcs.length:=(ES.1 h3).1;rw[Int.zero_add]at h4;rw[h4]at h1;rw[h2];have hix:=uF (l:=f.funcs) (n:=(k:Int)) (by omega) (by omega);rw[En,GH,h3]at hix;have hix':au T 22 (sigs f.funcs) (.int .i64 (k:Int))=some (.ip (ab s.av)):=hix;have hneg:¬((k:Int)<0):=by omega
  have hcl:=fun t (ht:t∈s.params)=>t104 t (hps t ht);have hcr:=t104 s.result hrr;have e0:ai pg 103 [jK s.params]=dG T 54 (ai pg) [jK s.params]:=eH hOther rfl _;have e1:=rH (T:=T) (t:=54) (f:=Ty.av) (sz:=2) rfl rfl rfl rfl rfl (by decide) (by decide) (fun x=>Ap.ig x) (ai pg) s.params (show s.params.length*32<=140737488355328 by omega) [];rw[show AV.sl (s.params.map Ty.av)=jK s.params from rfl,<- e0]at e1;funext hp;show aE _ hp=R.ok (.tup [s.av,.bool true]) hp;by_cases hps0:s.params=[]
  ·rw[Ef hps0]at e1;have e2:az 5 [] (.agg [.str s.name,.sl [],.int .i64 s.result.kind,aS s.result.fields,.int .i64 s.effects])=M.pure (.agg [.str s.name,.sl [],.int .i64 s.result.kind,aS s.result.fields,.int .i64 s.effects]):=aV rfl;have key:S37 (ai pg) ak (cl ax f.av) (cl ax (.str name)) []= .ok (.tup [.agg [.str s.name,.sl [],.int .i64 s.result.kind,aS s.result.fields,.int .i64 s.effects],.bool true]) []:=by
    simp only[S37,hJ,rG,dM,FA24_1,aT,Fu,ER,LD22,iD,h1,aY,bP,hneg,Gl,bb,Fc,EN,hix',LD56,dF,Et,Ex,Er,Nat.reduceAdd,Eb,EW,EL,EY,eK,iW,bd,bw];rw[cB e1];simp only[eE,hcr,ge,aY,bu,aL,D9,aT,ku,cS,yH,bd,bw];rw[FL37_0];simp[L37_0,e2,M.pure]
   unfold aE;rw[key];have:(AV.agg [.str s.name,.sl [],.int .i64 s.result.kind,aS s.result.fields,.int .i64 s.effects])=s.av:=by rw[<- eK,hps0];rfl
   rw[this];have hc:Ap.Clean (AV.tup [s.av,.bool true]):=fun g=>by simp[cl,dy]
   exact Ee (fun x=>R.ok x hp) (hc.frz 6 [])
  ·rw[if_neg hps0]at e1;have hq:([]++[rowOf Ty.av s.params]:Hp)[0]? = some (rowOf Ty.av s.params):=rfl;have key:S37 (ai pg) ak (cl ax f.av) (cl ax (.str name)) []= .ok (.tup [.agg [.str s.name,.hs 0 0 s.params.length 2 true,.int .i64 s.result.kind,aS s.result.fields,.int .i64 s.effects],.bool true]) ([]++[rowOf Ty.av s.params]):=by
    simp only[S37,hJ,rG,dM,FA24_1,aT,Fu,ER,LD22,iD,h1,aY,bP,hneg,Gl,bb,Fc,EN,hix',LD56,dF,Et,Ex,Er,Nat.reduceAdd,Eb,EW,EL,EY,eK,iW,bd,bw];rw[cB e1];simp only[eE,hcr,ge,aY,bu,aL,D9,aT,ku,cS,zq,bd,bw,Ex];exact Ax s.params (by omega) hcl 0 _ hq _ _ _ _ _ _ _ _ _ s.params.length 0 rfl (by omega)
   unfold aE;rw[key];have hfr:=nI (f:=Ty.av) BS (fun x=>by rw[cS,eE]) (fun x g=>pQ g x) (by decide) hq 5;have:ia 6 ([]++[rowOf Ty.av s.params]) (.tup [.agg [.str s.name,.hs 0 0 s.params.length 2 true,.int .i64 s.result.kind,aS s.result.fields,.int .i64 s.effects],.bool true])= .tup [s.av,.bool true]:=by
    rw[<- eK];show AV.tup [.agg [.str s.name,ia 6 ([]++[rowOf Ty.av s.params]) (.hs 0 0 s.params.length 2 true),.int .i64 s.result.kind,cl _ (aS s.result.fields),.int .i64 s.effects],.bool true]=_;rw[hfr,kU];rfl
   show R.ok (ia 6 _ _) hp=_;rw[this]
def t64(a b:Face)(ha:a.Lim)(hb:b.Lim):ai pg 64 [a.av,b.av]=M.pure (.bool (eh a b)):=by
 rw[C64];have h1:=t27 a ha;have h2:=t27 b hb;unfold eh;by_cases g1:a.module=b.module
 ·have g1':(a.module== b.module)=true:=Fe.2 g1;by_cases g2:cu a=true
  ·rw[g2]at h1;simp only[S64,hJ,dM,FA24_0,ER,LD9,aT,tq,g1',cO,LD24,Et,Ex,Er,Nat.reduceAdd,Eb,EW,EL,EY,hP,h1,h2,g2,aY,bd,ej,dq,Fi,Gw]
  ·rw[Gi]at g2;rw[g2]at h1;simp only[S64,hJ,dM,FA24_0,ER,LD9,aT,tq,g1',cO,ub,List.replicate,LD24,Et,Ex,Er,Nat.reduceAdd,Eb,EW,EL,EY,hP,h1,g2,aY,bd,ej,kM,dq,Fi,GN,GK]
 ·have g1':(a.module== b.module)=false:=E4.2 g1;simp[S64,g1,g1']
theorem Ay(old now:Face)(ho:old.Lim)(hn:now.Lim)(hr:cu now=true)(x4 x5 x6 x7 x8:AV):∀(n i:Nat),old.funcs.length-i=n->i<=old.funcs.length->
  ak (L65_0 (ai pg) ak) [.ip (ab now.av),sigs old.funcs,.int .i64 old.funcs.length,.int .i64 i,x4,x5,x6,x7,x8]=M.pure (match (old.funcs.drop i).find? (fun f=>!(fu now f))with
   |some s=>.tup [s.av,.bool true]
   |none=>.tup [qW.av,.bool false]):=by
 have hlen:=ho.len;intro n
 induction n with
 |zero=>
  intro i hni hi;rw[FL65_0];have h1:¬((i:Int)<(old.funcs.length:Int)):=by omega
  have h2:old.funcs.drop i=[]:=E0 (by omega);have e1:cE T false 56 []=some qW.av:=rfl;simp[L65_0,h1,h2,e1]
 | succ n ih=>
  intro i hni hi;have hlt:i<old.funcs.length:=by omega
  have h1:(i:Int)<(old.funcs.length:Int):=by omega
  have h2:old.funcs.drop i=old.funcs[i]:: old.funcs.drop (i+1):=EI hlt;have ih':=ih (i+1) (by omega) (by omega);have hw:IntKind.i64.wrap ((i:Int)+1)=((i+1:Nat):Int):=aX (by omega);have hix:=uF (l:=old.funcs) (n:=(i:Int)) (by omega) h1;rw[En,Eu old.funcs i hlt]at hix;have hfl:=ho.sigs _ (Es hlt);generalize old.funcs[i]=f at hix h2 hfl;have h3:=t37 now hn hr f.name;have hkb:fu now f=(match iy now f.name with|some g=>sL g f|none=>false):=rfl;rw[h2,FL65_0];simp only[L65_0,bd,bw,bP,aT,h1,Ff,bb,EW,hix,dF,LD56,Et,Ex,Er,Nat.reduceAdd,Eb,EL,EY,eK,rD,aY,dM,LD24,hP,FA56_0,ER,LD9,h3];cases hfs:iy now f.name with
  |none=>
   rw[hfs]at hkb;simp[hkb]
  | some g=>
   rw[hfs]at hkb;simp only at hkb;have hgl:g.Lim:=hn.sigs g (List.mem_of_find?_eq_some hfs);have h4:=t44 g f hgl hfl;cases hs:sL g f with
   |true=>
    rw[hs]at h4 hkb;simp[hkb,h4,hw];simpa using ih'
   |false=>
    rw[hs]at h4 hkb;simp[hkb,h4]
theorem t65(old now:Face)(ho:old.Lim)(hn:now.Lim)(hr:cu now=true):ai pg 65 [old.av,now.av]=M.pure (match gz old now with
   |some s=>.tup [s.av,.bool true]
   |none=>.tup [qW.av,.bool false]):=by
 rw[C65];have h:=Ay old now ho hn hr (.str []) (.sl []) (.int .i64 0) (.sl []) (.int .i64 0) old.funcs.length 0 rfl (by omega);rw[ER]at h;unfold gz;simp[S65,sigs]at h|-;rw[h];cases List.find? (fun f=>!fu now f) old.funcs with
 |none=>exact bB fun g=>by simp[cl,dy]
 |some s=>exact bB fun g=>by simp[cl,dy]
def t17(a b:Face)(ha:a.Lim)(hb:b.Lim):ai pg 17 [a.av,b.av]=M.pure (.tup [.int .i64 (df a b).1,.str (df a b).2]):=by
 rw[C17];have h1:=t64 a b ha hb;have hc:∀(k:Int)(s:bG),aE (M.pure (.tup [.int .i64 k,.str s]))=M.pure (.tup [.int .i64 k,.str s]):=fun k s=>bB fun g=>rfl;unfold df;cases hm:eh a b with
 |false=>
  rw[hm]at h1;simp[S17,h1,hc]
 | true=>
  rw[hm]at h1;unfold eh at hm;simp only[Ea]at hm;have h2:=t65 a b ha hb hm.2;have h3:=t65 b a hb ha hm.1.2;cases hl:gz a b with
  |some s=>
   rw[hl]at h2;simp[S17,h1,h2,hc]
  | none=>
   rw[hl]at h2;cases hl2:gz b a with
   |some s=>
    rw[hl2]at h3;simp[S17,h1,h2,h3,hc]
   |none=>
    rw[hl2]at h3;simp[S17,h1,h2,h3,hc]
end Go.Proofs.YteemeakjlfnapaaGreatDoor
namespace Go.Proofs.YteemeakjlfnapaaGreatDoor
open Go Go.Av
set_option maxRecDepth 1000000
def sF:cj pg 80 14 [] []= .ok (.bool true) []:=by kernel_rfl
def fV:ai pg 14 []=M.pure (.bool true):=by
 funext h;have h1:=vM hOther sF (by simp);have e:∀h,ai pg 14 [] h=aE (bR (pg.cx (ai pg) Tryz.f14.ntmps ve) ak Tryz.f14 (pg.own 14) (dy ax [])) h:=fun h=>congrFun (aw hOther rfl rfl rfl []) h;rw[e]at h1 |-;unfold aE at h1 |-;generalize bR (pg.cx (ai pg) Tryz.f14.ntmps ve) ak Tryz.f14 (pg.own 14) (dy ax []) []=r at h1 |-;cases r with
 |ok v h'=>
  simp only[R.ok.injEq]at h1;show R.ok (ia 6 h' v) h=_;rw[h1.1];rfl
 |pan v h'=>cases h1
 |fail=>cases h1
end Go.Proofs.YteemeakjlfnapaaGreatDoor
namespace Go.Proofs.YteemeakjlfnapaaGreatDoor
open Go Go.Av Go.Av.Ap
set_option maxRecDepth 100000
end Go.Proofs.YteemeakjlfnapaaGreatDoor
