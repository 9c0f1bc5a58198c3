/- What the functions of the seat compute, part 4: the texts of the claim, one behind the other. Conditions: bounds, as each theorem names them. -/
import Derived.Test.YteemeakjlfnapaaGreatDoorTc
import Derived.Shelf.SlSortCmp.NoneTotal
import Derived.Test.YteemeakjlfnapaaGreatDoorRows
import Derived.Lib.LaidTab
import Derived.Stop.LaidErr
import Derived.Shelf.Vars
import Derived.ProofKit
import Derived.Deep.DeepHandedRow
import Derived.Deep.DeepWitnessRowRef
import Derived.Deep.DeepLaidRun
import Derived.Test.YteemeakjlfnapaaGreatDoorLd
set_option linter.defProp false
set_option linter.unusedSimpArgs false
set_option linter.unusedVariables false
namespace Go.Proofs.YteemeakjlfnapaaGreatDoor
open Go Go.Av Go.Av.Ap
set_option maxRecDepth 100000
@[simp] theorem FA24_0(cs:List AV):aa T 24 (.ip cs) 0=some (.ip (cs.drop 0)):=rfl
@[simp] theorem FH24_0(l k:Nat):aa T 24 (.hp l k) 0=some (.hp l (k+0)):=rfl
@[simp] theorem FA24_1(cs:List AV):aa T 24 (.ip cs) 1=some (.ip (cs.drop 1)):=rfl
@[simp] theorem FH24_1(l k:Nat):aa T 24 (.hp l k) 1=some (.hp l (k+1)):=rfl
@[simp] theorem FA27_0(cs:List AV):aa T 27 (.ip cs) 0=some (.ip (cs.drop 0)):=rfl
@[simp] theorem FH27_0(l k:Nat):aa T 27 (.hp l k) 0=some (.hp l (k+0)):=rfl
@[simp] theorem FA27_1(cs:List AV):aa T 27 (.ip cs) 1=some (.ip (cs.drop 1)):=rfl
@[simp] theorem FH27_1(l k:Nat):aa T 27 (.hp l k) 1=some (.hp l (k+1)):=rfl
@[simp] theorem FA39_0(cs:List AV):aa T 39 (.ip cs) 0=some (.ip (cs.drop 0)):=rfl
@[simp] theorem FH39_0(l k:Nat):aa T 39 (.hp l k) 0=some (.hp l (k+0)):=rfl
@[simp] theorem FA39_1(cs:List AV):aa T 39 (.ip cs) 1=some (.ip (cs.drop 1)):=rfl
@[simp] theorem FH39_1(l k:Nat):aa T 39 (.hp l k) 1=some (.hp l (k+1)):=rfl
@[simp] theorem FA39_2(cs:List AV):aa T 39 (.ip cs) 2=some (.ip (cs.drop 2)):=rfl
@[simp] theorem FH39_2(l k:Nat):aa T 39 (.hp l k) 2=some (.hp l (k+2)):=rfl
@[simp] theorem FA41_0(cs:List AV):aa T 41 (.ip cs) 0=some (.ip (cs.drop 0)):=rfl
@[simp] theorem FH41_0(l k:Nat):aa T 41 (.hp l k) 0=some (.hp l (k+0)):=rfl
@[simp] theorem FA41_1(cs:List AV):aa T 41 (.ip cs) 1=some (.ip (cs.drop 1)):=rfl
@[simp] theorem FH41_1(l k:Nat):aa T 41 (.hp l k) 1=some (.hp l (k+1)):=rfl
@[simp] theorem FA41_2(cs:List AV):aa T 41 (.ip cs) 2=some (.ip (cs.drop 2)):=rfl
@[simp] theorem FH41_2(l k:Nat):aa T 41 (.hp l k) 2=some (.hp l (k+2)):=rfl
@[simp] theorem FA41_3(cs:List AV):aa T 41 (.ip cs) 3=some (.ip (cs.drop 3)):=rfl
@[simp] theorem FH41_3(l k:Nat):aa T 41 (.hp l k) 3=some (.hp l (k+3)):=rfl
@[simp] theorem FA41_4(cs:List AV):aa T 41 (.ip cs) 4=some (.ip (cs.drop 4)):=rfl
@[simp] theorem FH41_4(l k:Nat):aa T 41 (.hp l k) 4=some (.hp l (k+4)):=rfl
@[simp] theorem FA41_5(cs:List AV):aa T 41 (.ip cs) 5=some (.ip (cs.drop 5)):=rfl
@[simp] theorem FH41_5(l k:Nat):aa T 41 (.hp l k) 5=some (.hp l (k+5)):=rfl
@[simp] theorem FA41_6(cs:List AV):aa T 41 (.ip cs) 6=some (.ip (cs.drop 6)):=rfl
@[simp] theorem FH41_6(l k:Nat):aa T 41 (.hp l k) 6=some (.hp l (k+6)):=rfl
@[simp] theorem FA47_0(cs:List AV):aa T 47 (.ip cs) 0=some (.ip (cs.drop 0)):=rfl
@[simp] theorem FH47_0(l k:Nat):aa T 47 (.hp l k) 0=some (.hp l (k+0)):=rfl
@[simp] theorem FA47_1(cs:List AV):aa T 47 (.ip cs) 1=some (.ip (cs.drop 1)):=rfl
@[simp] theorem FH47_1(l k:Nat):aa T 47 (.hp l k) 1=some (.hp l (k+1)):=rfl
@[simp] theorem FA47_2(cs:List AV):aa T 47 (.ip cs) 2=some (.ip (cs.drop 2)):=rfl
@[simp] theorem FH47_2(l k:Nat):aa T 47 (.hp l k) 2=some (.hp l (k+2)):=rfl
@[simp] theorem FA47_3(cs:List AV):aa T 47 (.ip cs) 3=some (.ip (cs.drop 3)):=rfl
@[simp] theorem FH47_3(l k:Nat):aa T 47 (.hp l k) 3=some (.hp l (k+3)):=rfl
@[simp] theorem FA47_4(cs:List AV):aa T 47 (.ip cs) 4=some (.ip (cs.drop 4)):=rfl
@[simp] theorem FH47_4(l k:Nat):aa T 47 (.hp l k) 4=some (.hp l (k+4)):=rfl
@[simp] theorem FA47_5(cs:List AV):aa T 47 (.ip cs) 5=some (.ip (cs.drop 5)):=rfl
@[simp] theorem FH47_5(l k:Nat):aa T 47 (.hp l k) 5=some (.hp l (k+5)):=rfl
@[simp] theorem FA56_0(cs:List AV):aa T 56 (.ip cs) 0=some (.ip (cs.drop 0)):=rfl
@[simp] theorem FH56_0(l k:Nat):aa T 56 (.hp l k) 0=some (.hp l (k+0)):=rfl
@[simp] theorem FA56_1(cs:List AV):aa T 56 (.ip cs) 1=some (.ip (cs.drop 1)):=rfl
@[simp] theorem FH56_1(l k:Nat):aa T 56 (.hp l k) 1=some (.hp l (k+1)):=rfl
@[simp] theorem FA56_2(cs:List AV):aa T 56 (.ip cs) 2=some (.ip (cs.drop 2)):=rfl
@[simp] theorem FH56_2(l k:Nat):aa T 56 (.hp l k) 2=some (.hp l (k+2)):=rfl
@[simp] theorem FA56_3(cs:List AV):aa T 56 (.ip cs) 3=some (.ip (cs.drop 4)):=rfl
@[simp] theorem FH56_3(l k:Nat):aa T 56 (.hp l k) 3=some (.hp l (k+4)):=rfl
@[simp] theorem FA73_0(cs:List AV):aa T 73 (.ip cs) 0=some (.ip (cs.drop 0)):=rfl
@[simp] theorem FH73_0(l k:Nat):aa T 73 (.hp l k) 0=some (.hp l (k+0)):=rfl
@[simp] theorem FA73_1(cs:List AV):aa T 73 (.ip cs) 1=some (.ip (cs.drop 1)):=rfl
@[simp] theorem FH73_1(l k:Nat):aa T 73 (.hp l k) 1=some (.hp l (k+1)):=rfl
@[simp] theorem FA73_2(cs:List AV):aa T 73 (.ip cs) 2=some (.ip (cs.drop 2)):=rfl
@[simp] theorem FH73_2(l k:Nat):aa T 73 (.hp l k) 2=some (.hp l (k+2)):=rfl
@[simp] theorem FA73_3(cs:List AV):aa T 73 (.ip cs) 3=some (.ip (cs.drop 3)):=rfl
@[simp] theorem FH73_3(l k:Nat):aa T 73 (.hp l k) 3=some (.hp l (k+3)):=rfl
@[simp] theorem FA73_4(cs:List AV):aa T 73 (.ip cs) 4=some (.ip (cs.drop 5)):=rfl
@[simp] theorem FH73_4(l k:Nat):aa T 73 (.hp l k) 4=some (.hp l (k+5)):=rfl
@[simp] theorem FA73_5(cs:List AV):aa T 73 (.ip cs) 5=some (.ip (cs.drop 6)):=rfl
@[simp] theorem FH73_5(l k:Nat):aa T 73 (.hp l k) 5=some (.hp l (k+6)):=rfl
@[simp] theorem FA76_0(cs:List AV):aa T 76 (.ip cs) 0=some (.ip (cs.drop 0)):=rfl
@[simp] theorem FH76_0(l k:Nat):aa T 76 (.hp l k) 0=some (.hp l (k+0)):=rfl
@[simp] theorem FA76_1(cs:List AV):aa T 76 (.ip cs) 1=some (.ip (cs.drop 1)):=rfl
@[simp] theorem FH76_1(l k:Nat):aa T 76 (.hp l k) 1=some (.hp l (k+1)):=rfl
@[simp] theorem FA104_1(cs:List AV):aa T 104 (.ip cs) 1=some (.ip (cs.drop 1)):=rfl
@[simp] theorem FH104_1(l k:Nat):aa T 104 (.hp l k) 1=some (.hp l (k+1)):=rfl
@[simp] theorem FA163_0(cs:List AV):aa T 163 (.ip cs) 0=some (.ip (cs.drop 0)):=rfl
@[simp] theorem FH163_0(l k:Nat):aa T 163 (.hp l k) 0=some (.hp l (k+0)):=rfl
@[simp] theorem FA163_1(cs:List AV):aa T 163 (.ip cs) 1=some (.ip (cs.drop 1)):=rfl
@[simp] theorem FH163_1(l k:Nat):aa T 163 (.hp l k) 1=some (.hp l (k+1)):=rfl
@[simp] theorem LD3(x:AV)(l:List AV):ai T 3 (.ip (x:: l))=some x:=rfl
@[simp] theorem LD4(x:AV)(l:List AV):ai T 4 (.ip (x:: l))=some x:=rfl
@[simp] theorem LD9(x:AV)(l:List AV):ai T 9 (.ip (x:: l))=some x:=rfl
@[simp] theorem LD22(x:AV)(l:List AV):ai T 22 (.ip (x:: l))=some x:=rfl
@[simp] theorem LD24(cs:List AV):ai T 24 (.ip cs)=if 2<=cs.length then some (.agg (cs.take 2))else none:=rfl
@[simp] theorem LD25(x:AV)(l:List AV):ai T 25 (.ip (x:: l))=some x:=rfl
@[simp] theorem LD27(cs:List AV):ai T 27 (.ip cs)=if 2<=cs.length then some (.agg (cs.take 2))else none:=rfl
@[simp] theorem LD35(x:AV)(l:List AV):ai T 35 (.ip (x:: l))=some x:=rfl
@[simp] theorem LD36(x:AV)(l:List AV):ai T 36 (.ip (x:: l))=some x:=rfl
@[simp] theorem LD37(x:AV)(l:List AV):ai T 37 (.ip (x:: l))=some x:=rfl
@[simp] theorem LD41(cs:List AV):ai T 41 (.ip cs)=if 9<=cs.length then some (.agg (cs.take 9))else none:=rfl
@[simp] theorem LD47(cs:List AV):ai T 47 (.ip cs)=if 6<=cs.length then some (.agg (cs.take 6))else none:=rfl
@[simp] theorem LD54(x:AV)(l:List AV):ai T 54 (.ip (x:: l))=some x:=rfl
@[simp] theorem LD56(cs:List AV):ai T 56 (.ip cs)=if 5<=cs.length then some (.agg (cs.take 5))else none:=rfl
@[simp] theorem LD73(cs:List AV):ai T 73 (.ip cs)=if 12<=cs.length then some (.agg (cs.take 12))else none:=rfl
@[simp] theorem LD76(cs:List AV):ai T 76 (.ip cs)=if 3<=cs.length then some (.agg (cs.take 3))else none:=rfl
@[simp] theorem LD102(x:AV)(l:List AV):ai T 102 (.ip (x:: l))=some x:=rfl
@[simp] theorem CB(s:bT):aV T 9 (.str s)=some (.int .i64 s.length):=rfl
@[simp] theorem AY(es:List AV):aV T 22 (.sl es)=some (.int .i64 es.length):=rfl
@[simp] theorem CK:aV T 22 .hn=some (.int .i64 0):=rfl
@[simp] theorem CG(l k n s:Nat)(a:Bool):aV T 22 (.hs l k n s a)=some (.int .i64 n):=rfl
@[simp] theorem CE(l:List Sig):aV T 22 (sigs l)=some (.int .i64 l.length):=(AY _).trans (by simp)
@[simp] theorem xX(es:List AV):aV T 25 (.sl es)=some (.int .i64 es.length):=rfl
@[simp] theorem CL:aV T 25 .hn=some (.int .i64 0):=rfl
@[simp] theorem yJ(l k n s:Nat)(a:Bool):aV T 25 (.hs l k n s a)=some (.int .i64 n):=rfl
@[simp] theorem t7(l:List eQ):aV T 25 (aN l)=some (.int .i64 l.length):=(xX _).trans (by simp[cw])
@[simp] theorem AZ(es:List AV):aV T 35 (.sl es)=some (.int .i64 es.length):=rfl
@[simp] theorem CM:aV T 35 .hn=some (.int .i64 0):=rfl
@[simp] theorem CH(l k n s:Nat)(a:Bool):aV T 35 (.hs l k n s a)=some (.int .i64 n):=rfl
@[simp] theorem yG(l:List bT):aV T 35 (strs l)=some (.int .i64 l.length):=(AZ _).trans (by simp)
@[simp] theorem A0(es:List AV):aV T 36 (.sl es)=some (.int .i64 es.length):=rfl
@[simp] theorem CN:aV T 36 .hn=some (.int .i64 0):=rfl
@[simp] theorem CI(l k n s:Nat)(a:Bool):aV T 36 (.hs l k n s a)=some (.int .i64 n):=rfl
@[simp] theorem yH(l:List Exp):aV T 36 (bG l)=some (.int .i64 l.length):=(A0 _).trans (by simp[eW])
@[simp] theorem A3(es:List AV):aV T 37 (.sl es)=some (.int .i64 es.length):=rfl
@[simp] theorem CO:aV T 37 .hn=some (.int .i64 0):=rfl
@[simp] theorem CJ(l k n s:Nat)(a:Bool):aV T 37 (.hs l k n s a)=some (.int .i64 n):=rfl
@[simp] theorem yI(l:List Fun):aV T 37 (bY l)=some (.int .i64 l.length):=(A3 _).trans (by simp)
@[simp] theorem xY(es:List AV):aV T 54 (.sl es)=some (.int .i64 es.length):=rfl
@[simp] theorem CP:aV T 54 .hn=some (.int .i64 0):=rfl
@[simp] theorem yK(l k n s:Nat)(a:Bool):aV T 54 (.hs l k n s a)=some (.int .i64 n):=rfl
@[simp] theorem CF(l:List Ty):aV T 54 (ky l)=some (.int .i64 l.length):=(xY _).trans (by simp)
def t6{l:List Sig}{n:Int}(h0:0<=n)(h:n<(l.length:Int)):ao T 22 (sigs l) (.int .i64 n)=some (.ip (ab (Sig.av l[n.toNat]!))):=cD (T:=T) (t:=22) (e:=56) rfl rfl rfl (fun _=>by first|rfl|(simp;done)|(simp;rfl)) h0 h
def nJ{l:List eQ}{n:Int}(h0:0<=n)(h:n<(l.length:Int)):ao T 25 (aN l) (.int .i64 n)=some (.ip (ab (be l[n.toNat]!))):=by rw[aN,cw];exact cD (T:=T) (t:=25) (e:=76) rfl rfl rfl (fun _=>by first|rfl|(simp;done)|(simp;rfl)) h0 h
def yD{l:List bT}{n:Int}(h0:0<=n)(h:n<(l.length:Int)):ao T 35 (strs l) (.int .i64 n)=some (.ip (ab (AV.str l[n.toNat]!))):=cD (T:=T) (t:=35) (e:=9) rfl rfl rfl (fun _=>by first|rfl|(simp;done)|(simp;rfl)) h0 h
def wP{l:List Exp}{n:Int}(h0:0<=n)(h:n<(l.length:Int)):ao T 36 (bG l) (.int .i64 n)=some (.ip (ab (Exp.av l[n.toNat]!))):=by rw[bG,eW];exact cD (T:=T) (t:=36) (e:=47) rfl rfl rfl (fun _=>by first|rfl|(simp;done)|(simp;rfl)) h0 h
def wQ{l:List Fun}{n:Int}(h0:0<=n)(h:n<(l.length:Int)):ao T 37 (bY l) (.int .i64 n)=some (.ip (ab (Fun.av l[n.toNat]!))):=cD (T:=T) (t:=37) (e:=73) rfl rfl rfl (fun _=>by first|rfl|(simp;done)|(simp;rfl)) h0 h
def yE{l:List Ty}{n:Int}(h0:0<=n)(h:n<(l.length:Int)):ao T 54 (ky l) (.int .i64 n)=some (.ip (ab (Ty.av l[n.toNat]!))):=cD (T:=T) (t:=54) (e:=27) rfl rfl rfl (fun _=>by first|rfl|(simp;done)|(simp;rfl)) h0 h
def AW{a b:List Fun}(h:(a.length+b.length)*184<=140737488355328):eE T 37 (bY a) (bY b)=some (bY (a++b)):=by
 have:=oY (T:=T) (t:=37) (e:=73) rfl rfl rfl (f:=Fun.av) (fun _=>by first|rfl|(simp;done)|(simp;rfl)) (a:=a) (b:=b) h (by decide)
 simpa [bY]using this
def Cz{a b:List Ty}(h:(a.length+b.length)*32<=140737488355328):eE T 54 (ky a) (ky b)=some (ky (a++b)):=by
 have:=oY (T:=T) (t:=54) (e:=27) rfl rfl rfl (f:=Ty.av) (fun _=>by first|rfl|(simp;done)|(simp;rfl)) (a:=a) (b:=b) h (by decide)
 simpa [ky]using this
end Go.Proofs.YteemeakjlfnapaaGreatDoor
namespace Go.Proofs.YteemeakjlfnapaaGreatDoor.F
open Go Go.Av Go.Av.Ap
set_option maxRecDepth 100000
def BM(e:AV)(es:List AV):bz (tb Tryz.f163.ntmps nR) (bU 0) Tryz.f163 none [.sl (e:: es)]=af (appH T 25 true (.sl []) (.sl (e:: es))) fun v=>af (ah (some v)) M.pure:=by kernel_rfl
def BN:bz (tb Tryz.f163.ntmps nR) (bU 0) Tryz.f163 none [.hn]=af (ah (some (.sl []))) M.pure:=by kernel_rfl
def BO(l off:Nat):bz (tb Tryz.f163.ntmps nR) (bU 0) Tryz.f163 none [.hs l off 0 1 false]=af (appH T 25 true (.sl []) (.hs l off 0 1 false)) fun v=>af (ah (some v)) M.pure:=by kernel_rfl
def z8(call:FuncId->List AV->M AV)(args:List AV)(h:Hp)(S:ap)(β:List a8)(w:World)(vs:List Value)(hr:cv T 25 call args h≠.fail)(hg:kJ β h w)(hw:Wf S w)(hh:bJ S β w h)(hv:aG S β args vs):
  Calls Tryz.prog 163 vs.toArray w (cF none S β h w (cv T 25 call args h)):=by
 have key:∀es,args=[.sl es]->Calls Tryz.prog 163 vs.toArray w (cF none S β h w (cv T 25 call args h)):=by
  rintro es rfl;exact (jY (cx:=tb Tryz.f163.ntmps nR) (E:=fun es h=>cv T 25 call [.sl es] h) tok (mZ _ _) (sd _ _) Tryz.func163 rfl (fun h=>by rfl) (fun e es h=>by rw[BM];exact congrFun (uH _) h) (fun h=>by rw[BN];rfl) (fun l off h=>by rw[BO];rfl) hr hg hw hh hv).1
 unfold cv at hr;split at hr
 ·exact key _ rfl
 ·exact absurd rfl hr
def oN:(jj.map fun x=>Tryz.prog.funcs[x.1]?)=jj.map fun x=>some x.2.1:=by kernel_rfl
def iD:(jj.map fun x=>x.2.1.name== "runtime.NumGoroutine")=jj.map fun _=>false:=by kernel_rfl
def CQ{f k:Nat}{α:Type}{x y:α}{o:Option α}(h:(bif Nat.beq f k then some x else o)=some y):(f=k/\x=y)\/o=some y:=by
 cases hb:Nat.beq f k with
 |true=>rw[hb]at h;exact .inl ⟨DC hb,by simpa using h⟩
 |false=>rw[hb]at h;exact .inr h
def good:GoodPg Tryz.prog pg where
 tok:=tok
 funcs:=fun f fn a h=>by
  have:=jy jj f (fn,a) h
  exact⟨d8 oN _ this,d8 iD _ this⟩
 other:=by
  intro f E hE call hC args h S β w vs hr hg hw hh hv;have h0:other f=some E:=hE;unfold other at h0;rcases CQ h0 with⟨rfl,rfl⟩|h0
  ·exact⟨z8 call args h S β w vs hr hg hw hh hv,by kernel_rfl⟩
  cases h0
 nw:=by
  intro f hf;have h0:(bif Nat.beq f 163 then true else false)=true:=hf;cases hb:Nat.beq f 163 with
  |true=>
   have:=DC hb
   subst this;exact⟨_,rfl,fun call args=>mY _ _ _ _⟩
  |false=>rw[hb]at h0;cases h0
def bM{α β:Type}{m:M α}{a:α}{h h':Hp}(e:m h= .ok a h')(f:α->M β):af m f h=f a h':=by simp only[af,e]
def Aq(x:eQ):(ab (be x)).length=3:=by simp
def lp(l:List eQ):aN l= .sl (l.map be):=by rw[aN,cw]
def vP{q:Nat}{l:List eQ}{i:Nat}{h:Hp}(hi:i<l.length)(hq:h[q]? = some (rowOf be l)):fu T 76 (.hp q (0+i*3)) h= .ok (be l[i]) h:=by
 have hlen:=dj (f:=be) Aq l;rw[nk (T:=T) (t:=76) rfl rfl hq (show 0+i*3+3<=_ by omega)];show R.ok (AV.agg (((rowOf be l).drop (0+i*3)).take 3)) h=_;rw[DW,da Aq l i hi,ct,e9]
def wC{q:Nat}{l:List eQ}{i:Nat}{h:Hp}(hi:i<l.length)(hq:h[q]? = some (rowOf be l)):fg T 27 (.hp q (0+i*3+1)) l[i].2.av h= .ok (.tup []) h:=by
 have hlen:=dj (f:=be) Aq l;refine kp (T:=T) (t:=27) rfl hq (Ap.f7 _) (show 0+i*3+1+2<=_ by omega) (by decide) ?_
 have:=da Aq l i hi
 have h2:((rowOf be l).drop (0+i*3+1)).take 2=(((rowOf be l).drop (i*3)).take 3).drop 1:=by
  rw[List.drop_take,FO];congr 2;omega
 rw[bK];show ((rowOf be l).drop (0+i*3+1)).take 2=_;rw[h2,this,ct];rfl
theorem Dc{q n i:Nat}(h:i<n):ao T 25 (.hs q 0 n 3 true) (.int .i64 (i:Int))=some (.hp q (0+i*3)):=by
 have e:ao T 25 (.hs q 0 n 3 true) (.int .i64 (i:Int))=if 0<=(i:Int)/\(i:Int)<(n:Int)then some (.hp q (0+(i:Int).toNat*3))else none:=rfl;rw[e,DG (by omega),DT]
def xE(t:Ty)(hb:t.fields.length<=4611686018427387904)(hk:∀f∈t.fields,ak pg 104 [f.2.av]=M.pure f.2.av)(q:Nat)(h:Hp)(hq:h[q]? = some (rowOf be t.fields))(x5 x6:AV):∀(n i:Nat),t.fields.length-i=n->i<=t.fields.length->
  aj (L104_0 (ak pg) aj) [.hs q 0 t.fields.length 3 true,.int .i64 t.fields.length,.int .i64 i,.int .i64 t.kind,.hs q 0 t.fields.length 3 true,x5,x6] h= .ok (.agg [.int .i64 t.kind,.hs q 0 t.fields.length 3 true]) h:=by
 intro n
 induction n with
 |zero=>
  intro i hn hi;rw[FL104_0];have h1:¬((i:Int)<(t.fields.length:Int)):=by omega
  have h2:ay 2 [] (.agg [.int .i64 t.kind,.hs q 0 t.fields.length 3 true])=M.pure (.agg [.int .i64 t.kind,.hs q 0 t.fields.length 3 true]):=aP rfl;simp[L104_0,h1,h2,M.pure]
 |succ n ih=>
  intro i hn hi;have hlt:i<t.fields.length:=by omega
  have h1:(i:Int)<(t.fields.length:Int):=by omega
  have ih':=ih (i+1) (by omega) (by omega);have hw:IntKind.i64.wrap ((i:Int)+1)=((i+1:Nat):Int):=aU (by omega);have hc:=hk t.fields[i] (DV hlt);rw[<- ih'];generalize hcode:aj (L104_0 (ak pg) aj) [.hs q 0 t.fields.length 3 true,.int .i64 t.fields.length,.int .i64 i,.int .i64 t.kind,.hs q 0 t.fields.length 3 true,x5,x6] h=code;rw[FL104_0]at hcode;simp -implicitDefEqProofs only[L104_0,aY,a7,bL,aO,bb,h1,EN,Ep,Dc hlt]at hcode;rw[bM (vP hlt hq)]at hcode;simp -implicitDefEqProofs only[kR,aX,ct,FA76_1,aO,EJ,Ev,LD27,D4,D3,DW,Nat.reduceAdd,DD,Ep,Eo,Eu,de,hc,fe,FH76_1]at hcode;rw[show (i*3+1)=0+i*3+1 by omega]at hcode;rw[bM (wC hlt hq)]at hcode;simp -implicitDefEqProofs only[ej,aO,hw]at hcode;rw[<- hcode]
theorem t104:∀(d:Nat)(t:Ty),p8 d t->ak pg 104 [t.av]=M.pure t.av
 |0,t,h=>h.elim
 | d+1,t,h=>by
  have hlen:t.fields.length<=100:=h.1;have ih:∀f∈t.fields,ak pg 104 [f.2.av]=M.pure f.2.av:=fun f hf=>t104 d f.2 (h.2 f hf);have e0:ak pg 163 [aN t.fields]=cv T 25 (ak pg) [aN t.fields]:=eu hOther rfl _;have e1:=kX (T:=T) (t:=25) (f:=be) (sz:=3) rfl rfl rfl rfl rfl (by decide) (by decide) (fun x=>gM x) (ak pg) t.fields (show t.fields.length*48<=140737488355328 by omega) [];rw[<- lp,<- e0]at e1;rw[C104];funext hp;show aH _ hp=R.ok t.av hp;by_cases hf:t.fields=[]
  ·rw[DG hf]at e1;have e2:ay 2 [] (.agg [.int .i64 t.kind,.sl []])=M.pure (.agg [.int .i64 t.kind,.sl []]):=aP rfl;have key:S104 (ak pg) aj (cl ax t.av) []= .ok (.agg [.int .i64 t.kind,.sl []]) []:=by
    simp only[S104,kV,jr,aX,bK,aY,a7];rw[bM e1];simp only[bj,aL,Dx,aO,xX];rw[FL104_0];simp[L104_0,e2,M.pure]
   unfold aH;rw[key];have:(AV.agg [.int .i64 t.kind,.sl []])=t.av:=by rw[<- de,hf];rfl
   rw[this];simp only[R.ok.injEq,Gu];exact (Clean.frz (fun g=>kV g t) 6 [])
  ·rw[if_neg hf]at e1;have hq:([]++[rowOf be t.fields]:Hp)[0]? = some (rowOf be t.fields):=rfl;have key:S104 (ak pg) aj (cl ax t.av) []= .ok (.agg [.int .i64 t.kind,.hs 0 0 t.fields.length 3 true]) ([]++[rowOf be t.fields]):=by
    simp only[S104,kV,jr,aX,bK,aY,a7];rw[bM e1];simp only[bj,aL,Dx,aO,yJ,D3];exact xE t (by omega) ih 0 _ hq _ _ t.fields.length 0 rfl (by omega)
   unfold aH;rw[key];have hfr:=jE (f:=be) Aq (fun x=>by rw[ct,e9]) (fun x g=>zu g x) (by decide) hq 5;have:gx 6 ([]++[rowOf be t.fields]) (.agg [.int .i64 t.kind,.hs 0 0 t.fields.length 3 true])=t.av:=by
    rw[<- de,lp,<- hfr];rfl
   show R.ok (gx 6 _ _) hp=_;rw[this]
end Go.Proofs.YteemeakjlfnapaaGreatDoor.F
namespace Go.Proofs.YteemeakjlfnapaaGreatDoor
open Go Go.Av Go.Av.Ap
def zX(call:FuncId->List AV->M AV)(args:List AV)(h:Hp)(S:ap)(β:List a8)(w:World)(vs:List Value)(hr:gW call args h≠.fail)(hg:kJ β h w)(hw:Wf S w)(hh:bJ S β w h)(hv:aG S β args vs):
  Calls Tryz.prog 104 vs.toArray w (cF none S β h w (gW call args h)):=by
 unfold gW at hr |-;split at hr
 ·rename_i v;cases hc:xW 5 v with
  |false=>rw[hc]at hr;exact absurd rfl hr
  |true=>
   obtain⟨t,rfl,ht⟩:=qD 5 v hc;have e:=congrFun (F.t104 5 t ht) h
   have:=(gD F.good F.hOther 104 [t.av] h S β w vs (by rw[e];simp[M.pure]) hg hw hh hv).1
   rw[e]at this;exact this
 ·exact absurd rfl hr
theorem nn:∀(d:Nat)(t:Ty),cT d t=true->p8 d t
 |0,t,h=>by cases h
 |d+1,t,h=>by
  rw[kl]at h;simp only[Dy,DK,DL]at h;exact⟨by have:=h.1.1.2;omega,fun f hf=>nn d f.2 (h.2.1 f hf).2⟩
end Go.Proofs.YteemeakjlfnapaaGreatDoor
namespace Go.Proofs.YteemeakjlfnapaaGreatDoor.D
open Go Go.Av Go.Av.Ap
set_option maxRecDepth 100000
noncomputable def pg:Pg:={ T:=T,funcs:=m7 jj,own:=own,other:=fun _=>none }
def hOther:cC pg:=fun f E h=>by cases h
def E169(call:FuncId->List AV->M AV)(fx:b9 AV)(a0:AV):bz (pg.cx call Tryz.f169.ntmps qL) fx Tryz.f169 (own 169) [a0]=S169 call fx a0:=by kernel_rfl
def C169(a0:AV):ak pg 169 [a0]=aH (S169 (ak pg) aj (cl ax a0)):=(az hOther rfl rfl rfl _).trans (Dz aH (E169 _ _ (cl ax a0)))
def E109(call:FuncId->List AV->M AV)(fx:b9 AV)(a0 a1:AV):bz (pg.cx call Tryz.f109.ntmps qK) fx Tryz.f109 (own 109) [a0,a1]=S109 call fx a0 a1:=by kernel_rfl
def C109(a0 a1:AV):ak pg 109 [a0,a1]=aH (S109 (ak pg) aj (cl ax a0) (cl ax a1)):=(az hOther rfl rfl rfl _).trans (Dz aH (E109 _ _ (cl ax a0) (cl ax a1)))
def E108(call:FuncId->List AV->M AV)(fx:b9 AV)(a0 a1:AV):bz (pg.cx call Tryz.f108.ntmps qJ) fx Tryz.f108 (own 108) [a0,a1]=S108 call fx a0 a1:=by kernel_rfl
def C108(a0 a1:AV):ak pg 108 [a0,a1]=aH (S108 (ak pg) aj (cl ax a0) (cl ax a1)):=(az hOther rfl rfl rfl _).trans (Dz aH (E108 _ _ (cl ax a0) (cl ax a1)))
@[simp] theorem Cv(t:Nat)(a b:bT):ar T .gtr t (.str a) (.str b)=some (.bool !(aC a b||a== b)):=rfl
theorem t169(s:bT):ak pg 169 [.str s]=M.pure (.bool false):=by
 rw[C169];have e:ar T .neq 9 (.str s) (.str s)=some (.bool !(s== s)):=rfl;simp[S169,e]
def t109(a b:bT):ak pg 109 [.str a,.str b]=M.pure (.int .i64 (q3 a b)):=by
 rw[C109];unfold q3;cases h1:aC a b with
 |true=>simp[S109,t169,h1]
 | false=>
  by_cases h2:a=b
  ·subst h2;simp[S109,t169,db]
  ·have h3:=dt a b h1 h2;have h4:(a== b)=false:=EX.2 h2;simp[S109,t169,h1,h3,h2]
def t108(a b:bT)(x1 x2 x3 x4 y1 y2 y3 y4:AV):ak pg 108 [.agg [.str a,x1,x2,x3,x4],.agg [.str b,y1,y2,y3,y4]]=M.pure (.int .i64 (q3 a b)):=by
 rw[C108];have f0:∀cs,aa T 56 (.ip cs) 0=some (.ip (cs.drop 0)):=fun cs=>rfl;have l0:∀(s:bT)(cs:List AV),ai T 9 (.ip (.str s:: cs))=some (.str s):=fun s cs=>rfl;simp[S108,cl,dz,ab,f0,l0,t109]
def good:@GoodPg ⟨True⟩ Tryz.prog pg:=by
 letI:Dr:=⟨True⟩
 exact⟨tok,pI,(fun f E h=>by cases h),(fun f h=>by cases h)⟩
end Go.Proofs.YteemeakjlfnapaaGreatDoor.D
namespace Go.Proofs.YteemeakjlfnapaaGreatDoor
open Go Go.Av Go.Av.Ap Go.RowKit Go.Sort
set_option maxRecDepth 1000000
def C2(keys:List bT)(n:Nat):SWO (ltOf (wN keys n)):=by
 have h:∀i j,ltOf (wN keys n) i j=aC keys[i % n]! keys[j % n]!:=fun i j=>by
  unfold ltOf wN q3;cases h1:aC keys[i % n]! keys[j % n]! with
  |true=>simp
  |false=>
   cases h2:aC keys[j % n]! keys[i % n]! <;> simp
 refine⟨fun x=>?_,fun x y z=>?_,fun x y z=>?_⟩
 ·rw[h,db]
 ·rw[h,h,h];exact cQ _ _ _
 ·rw[h,h,h];intro h1 h2;cases h3:aC keys[x % n]! keys[z % n]! with
  |false=>rfl
  | true=>
   exfalso;by_cases e:keys[x % n]! = keys[y % n]!
   ·rw[e,h2]at h3;cases h3
   ·have:=cQ _ _ _ (dt _ _ h1 e) h3
    rw[this]at h2;cases h2
def tv{ev:Nat->List Value}{k:Nat}{w:World}(hg:GOKw w){blk off n:Nat}{d:Array Nat}{os:Array Obj}(hb:gN<=blk):GOKw (sortWorldK ev k w blk off n d os):=
 hg.mono fun b hlt=>me ev k off n d os (Ec hlt hg.lt) (by omega)
def tg:∀args w,(callFunc 108 args).run Tryz.prog w= .ok (.enter 108 args) w:=enters_of Tryz.func108 (by kernel_rfl) rfl
def zy(a b:bT)(u v:List Value)(hu:∃(x:ByteArray)(r:List Value),u= .string x:: r/\x.data.toList=a)(hv:∃(x:ByteArray)(r:List Value),v= .string x:: r/\x.data.toList=b)(lu:u.length=5)(lv:v.length=5)(W:World)(hg:GOKw W):
  Calls Tryz.prog 108 #[.agg u.toArray,.agg v.toArray] W fun e w'=>e= .returned (.int .i64 (q3 a b))/\∃q os',w'=grow (W.drewN q) os':=by
 letI:Dr:=⟨True⟩
 have hs:∀(s:bT)(u:List Value),(∃(x:ByteArray)(r:List Value),u= .string x:: r/\x.data.toList=s)->u.length=5->VR (hM W) [] (.agg [.str s,.any,.any,.any,.any]) (.agg u.toArray):=by
  rintro s u ⟨x,r,rfl,hx⟩ hl;obtain⟨r1,r2,r3,r4,rfl⟩:∃r1 r2 r3 r4,r=[r1,r2,r3,r4]:=by
   match r,hl with
   |[r1,r2,r3,r4],_=>exact⟨r1,r2,r3,r4,rfl⟩
  simp only[VR];refine⟨_,rfl,?_⟩;simp only[aG,VR];exact⟨_,_,rfl,⟨x,rfl,hx⟩,_,_,rfl,trivial,_,_,rfl,trivial,_,_,rfl,trivial,_,_,rfl,trivial,rfl⟩
 have hv2:aG (hM W) [] [.agg [.str a,.any,.any,.any,.any],.agg [.str b,.any,.any,.any,.any]] [.agg u.toArray,.agg v.toArray]:=by
  simp only[aG];exact⟨_,_,rfl,hs a u hu lu,_,_,rfl,hs b v hv lv,rfl⟩
 have h:=(gD D.good D.hOther 108 [.agg [.str a,.any,.any,.any,.any],.agg [.str b,.any,.any,.any,.any]] [] (hM W) [] W _ (by rw[D.t108];simp[M.pure]) ⟨hg,fun b _ ho=>by obtain⟨l,_,_,h1,_⟩:=ho;simp at h1⟩ (fun _ _ _ h=>h) ⟨rfl,fun _=>.no,fun l cs hl=>by simp at hl⟩ hv2).1;rw[D.t108]at h;refine h.mono fun e w' hp=>?_;obtain⟨S',β',v,rfl,hv,L,_⟩:=hp;simp only[VR]at hv;subst hv;exact⟨rfl,L.grew trivial⟩
def A5:∀w,(isAgg 56).run Tryz.prog w= .ok true w:=fun w=>by kernel_rfl
def Aj:∀w,(Go.sizeOf 56).run Tryz.prog w= .ok 5 w:=fun w=>by kernel_rfl
def qy(w:World)(blk off cap:Nat)(keys:List bT)(ev:Nat->List Value)(_h0:0<keys.length)(hl:∀i,(ev i).length=5)(h1:∀i,∀v∈ev i,v.oneCell'=true)(hk:∀i,∃(x:ByteArray)(r:List Value),ev i= .string x:: r/\x.data.toList=keys[i % keys.length]!)(hg:GOKw w)(hb:gN<=blk)(hH:HoldsK ev 5 w blk off (Array.range keys.length))(hlt:blk<w.heap.size)(hsz:keys.length<4611686018427387904):
  Calls Tryz.prog 107 #[.slice (some ⟨blk,off,none⟩) keys.length cap,.func (.func 108) #[] #[]] w fun e w'=>e= .returned (.tuple #[])/\∃n os,w'=sortWorldK ev 5 w blk off n (dH keys).toArray os:=by
 have:=AnyQ.slices_SortFunc_eq Dg 5 A5 Aj ev hl h1 (wN keys keys.length) (C2 keys keys.length) 108 #[] blk off cap (Array.range keys.length) w tg
  (fun m os dk _ x y=>zy _ _ _ _ (hk x) (hk y) (hl x) (hl y) _ (tv hg hb)) hH hlt (by simpa using hsz)
 rw[Array.size_range]at this;refine this.mono ?_;rintro e w' ⟨he,n,os,hw⟩;refine⟨he,n,os,?_⟩;rw[hw];unfold dH;simp
def zY(call:FuncId->List AV->M AV)(args:List AV)(h:Hp)(S:ap)(β:List a8)(w:World)(vs:List Value)(hr:dZ 5 108 call args h≠.fail)(hg:kJ β h w)(hw:Wf S w)(hh:bJ S β w h)(hv:aG S β args vs):
  Calls Tryz.prog 107 vs.toArray w (cF none S β h w (dZ 5 108 call args h)):=by
 have h0:=hr;unfold dZ at hr;split at hr
 ·rename_i g';cases hb:Nat.beq g' 108 with
  |false=>rw[hb]at hr;exact absurd rfl hr
  |true=>
   have e:dZ 5 108 call [.sl [],.fn (.func g') [] []] h= .ok (.tup []) h:=by simp only[dZ,hb,Dx]
   rw[e];simp only[aG,VR,D3]at hv;obtain⟨_,_,rfl,⟨a,cap,rfl,_⟩,v,_,rfl,_,rfl⟩:=hv;refine (AnyF.slices_SortFunc_none Dg a cap v w).mono ?_;rintro e' w' ⟨rfl,rfl⟩;exact bE hw hh (Below.refl _ _) lR (by simp only[VR,aG];exact⟨[],rfl,rfl⟩)
 ·rename_i g';cases hb:Nat.beq g' 108 with
  |false=>rw[hb]at hr;exact absurd rfl hr
  |true=>
   have e:dZ 5 108 call [.hn,.fn (.func g') [] []] h= .ok (.tup []) h:=by simp only[dZ,hb,Dx]
   rw[e];simp only[aG,VR]at hv;obtain⟨_,_,rfl,rfl,v,_,rfl,_,rfl⟩:=hv;refine (AnyF.slices_SortFunc_none Dg none 0 v w).mono ?_;rintro e' w' ⟨rfl,rfl⟩;exact bE hw hh (Below.refl _ _) lR (by simp only[VR,aG];exact⟨[],rfl,rfl⟩)
 ·exact vz call qy h0 hg hw hh hv
 ·exact absurd rfl hr
end Go.Proofs.YteemeakjlfnapaaGreatDoor
namespace Go.Proofs.YteemeakjlfnapaaGreatDoor
open Go Go.Av Go.RowKit
set_option maxRecDepth 100000
def CR{α:Type}{f k:Nat}{x:α}{o:Option α}{y:α}(h:(bif Nat.beq f k then some x else o)=some y):(f=k/\x=y)\/o=some y:=by
 cases hb:Nat.beq f k with
 |true=>rw[hb]at h;exact .inl ⟨DC hb,by simpa using h⟩
 |false=>rw[hb]at h;exact .inr h
def uF{α:Type}{f k:Nat}{x y:α}{o:Option α}{P:Prop}(h1:f=k->x=y->P)(h2:o=some y->P)(h:(bif Nat.beq f k then some x else o)=some y):P:=(CR h).elim (fun h=>h1 h.1 h.2) h2
def good:GoodPg Tryz.prog pg where
 tok:=tok
 funcs:=pI
 other:=by
  intro f E hE call hC args h S β w vs hr hg hw hh hv;have h0:other f=some E:=hE;unfold other at h0;revert h0
  repeat' refine uF ?_ ?_
  all_goals first
   |(intro h0;cases h0;done)
   |(rintro rfl rfl;exact absurd rfl hr)
   |(rintro rfl rfl;exact⟨B3 call args h S β w vs hr hg hw hh hv,by kernel_rfl⟩)
   |(rintro rfl rfl;exact⟨zW call args h S β w vs hr hg hw hh hv,by kernel_rfl⟩)
   |(rintro rfl rfl;exact⟨zY call args h S β w vs hr hg hw hh hv,by kernel_rfl⟩)
   |(rintro rfl rfl;exact⟨zZ call args h S β w vs hr hg hw hh hv,by kernel_rfl⟩)
   |(rintro rfl rfl;exact⟨z6 call args h S β w vs hr hg hw hh hv,by kernel_rfl⟩)
   |(rintro rfl rfl;exact⟨z7 call args h S β w vs hr hg hw hh hv,by kernel_rfl⟩)
   |(rintro rfl rfl;exact⟨zX call args h S β w vs hr hg hw hh hv,by kernel_rfl⟩)
   |(rintro rfl rfl;exact⟨Aa call args h S β w vs hr hg hw hh hv,by kernel_rfl⟩)
   |(rintro rfl rfl;exact⟨Ab call args h S β w vs hr hg hw hh hv,by kernel_rfl⟩)
   |(rintro rfl rfl;exact⟨Ac call args h S β w vs hr hg hw hh hv,by kernel_rfl⟩)
 nw:=by
  intro f hf;have h0:(bif Nat.beq f 103 then true else false)=true:=hf;cases hb:Nat.beq f 103 with
  |true=>
   have:=DC hb
   subst this;exact⟨_,rfl,mY T 54⟩
  |false=>rw[hb]at h0;cases h0
end Go.Proofs.YteemeakjlfnapaaGreatDoor
namespace Go.Proofs.YteemeakjlfnapaaGreatDoor
open Go Go.Av Go.ChangeShapes Go.WideShapes Go.ChangeAt Go.RowKit
set_option maxRecDepth 1000000
def CY:ownKnob Tryz.prog.godebug=none:=by kernel_rfl
def star: "*" ++ "errors.errorString" = "*errors.errorString" :=by decide
def ma(u:TypeId)(h:Tryz.prog.typeName? 3 u=some "*errors.errorString"):u=288:=
 typeName_ptr_named (nm:= "errors.errorString") (by rw[star];kernel_rfl) (by kernel_rfl) (by decide) u (by rw[star];exact h)
def zJ{W:World}(hL:laidMetH Tryz.prog Rows.faceOrderRow.laid W)(hS:W.ShapedOpen Tryz.prog):GOKw W:=by
 have h0:laidMet Tryz.prog Rows.faceOrderRow.laid W:=hL;have h1:=h0.tail;have h2:=h1.tail;have h3:=h2.tail;have h4:=h3.tail;have hp:=Lib.tabIs_of_head (k:=.u64) (zs:=Lib.pow10Tab) (g:=3) (t:=278) (e:=214) (n:=20) (by kernel_rfl) (by kernel_rfl) (by kernel_rfl) (by kernel_rfl) (by kernel_rfl) (by kernel_rfl) h2;obtain⟨a0,s0,v0,_⟩:=laid_sentinel (g:=5) (ti:=106) (tp:=288) (te:=290) (ts:=9) h3 (by kernel_rfl) (by kernel_rfl) Tryz.underlying106 ma Tryz.underlying288 Tryz.underlying290 rfl rfl Tryz.underlying9 (by kernel_rfl) (by kernel_rfl);obtain⟨a1,s1,v1,_⟩:=laid_sentinel (g:=4) (ti:=106) (tp:=288) (te:=290) (ts:=9) h4 (by kernel_rfl) (by kernel_rfl) Tryz.underlying106 ma Tryz.underlying288 Tryz.underlying290 rfl rfl Tryz.underlying9 (by kernel_rfl) (by kernel_rfl);have hvar:∀ {name:String} {g:Nat} {cs:Array Value},Tryz.prog.globalNamed name=some g->W.var? Tryz.prog name=some cs->∃t fr,W.heap[g]? = some (.cells cs t fr):=by
  intro name g cs hn hv;unfold World.var? at hv;rw[hn]at hv;simp only[Fh]at hv;split at hv
  ·rename_i c t fr hh;simp only[Dw]at hv;subst hv;exact⟨t,fr,hh⟩
  ·cases hv
 have hcell:∀ {g:Nat} {v:Value},(∃t fr,W.heap[g]? = some (.cells #[v] t fr))->W.cell? ⟨g,0,none⟩=some v:=by
  rintro g v ⟨t,fr,hh⟩;simp[World.cell?,hh]
 refine⟨?_,hvar (by kernel_rfl) hp,⟨_,_,hcell (hvar (by kernel_rfl) v1)⟩,⟨_,_,hcell (hvar (by kernel_rfl) v0)⟩⟩;exact cell_of_shapedOpen_int (zero:=#[.int .i64 0]) (t:=3) hS (Fu (by kernel_rfl)) (by kernel_rfl) rfl (by kernel_rfl) (by kernel_rfl) Tryz.underlying3
mutual
def iJ:DataW Unit->List Value
 |.lit (.bool b)=>[.bool b]
 |.lit (.int k n)=>[.int k n]
 |.lit (.string s)=>[.string ⟨s.toArray⟩]
 |.agg ps=>uU ps
 |_=>[]
def uU:List (DataW Unit)->List Value
 |[]=>[]
 |d:: ds=>iJ d++uU ds
end
abbrev C3:ByteArray:={ data:=#[105,110,118,97,108,105,100,32,115,121,110,116,97,120] }
abbrev C1:ByteArray:={ data:=#[118,97,108,117,101,32,111,117,116,32,111,102,32,114,97,110,103,101] }
noncomputable def low:Nat:=(World.holding Tryz.prog default ⟨#[],#[],[]⟩).heap.size
noncomputable def wG:List (Option (Array Value)):=[none,none,none,some (iJ Rows.laid_internal_strconv_uint64pow10).toArray,some #[.iface 288 (.pointer (some ⟨low,0,none⟩))],some #[.iface 288 (.pointer (some ⟨low+1,0,none⟩))],
 some (iJ Rows.laid_math_bits_deBruijn32tab).toArray,some (iJ Rows.laid_math_bits_deBruijn64tab).toArray]
def oB:List Obj->List (Option (Array Value))->List Obj
 |.cells _ t fr:: os,some c:: cs=>.cells c t fr:: oB os cs
 |o:: os,_:: cs=>o:: oB os cs
 |os,[]=>os
 |[],_=>[]
noncomputable def jI(os:Os):World:=
 let w0:=World.holding Tryz.prog os ⟨#[.cells #[.string C3] 290,.cells #[.string C1] 290],#[],[]⟩
 { w0 with heap:=(oB w0.heap.toList wG).toArray }
def vI(os:Os)(args:Array Value):laidMet Tryz.prog Rows.faceOrderRow.laid ((jI os).forCall (fun _ _=>0) ⟨#[],args,[]⟩).memory:=
 laidMet_of_run3 8 (by kernel_rfl) (by kernel_rfl) (by kernel_rfl)
end Go.Proofs.YteemeakjlfnapaaGreatDoor
namespace Go.Proofs.YteemeakjlfnapaaGreatDoor
open Go Go.Av Go.Av.Ap Go.RowKit
set_option maxRecDepth 1000000
section
variable {H:Type} {enc:TypeId×Value->H} {W:World}
theorem jf:reachBytes=140737488351232:=rfl
theorem Ty.lim_mk{k:Int}{fs:List eQ}(h2:fs.length<=140737488355328)(h3:∀v∈fs,v.2.Lim):(Ty.mk k fs).Lim:=fun j=>match j with
 |0=>trivial
 |j+1=>⟨h2,fun x hx=>h3 x hx j⟩
theorem lX{N:Nat}(h:Rd enc Tryz.prog W N 27 (fun v:Ty=>v.cells) Ty.Lim):Rd enc Tryz.prog W (N+1) 25 (fun l:List eQ=>[aN l]) (fun l=>l.length<=140737488355328/\∀v∈l,v.2.Lim):=
 (je ((eS Tryz.underlying76 (by kernel_rfl) (aS (jO Tryz.underlying9) rfl (by kernel_rfl:_=1) (aS h rfl (by kernel_rfl:_=2) fO))).map (fun x=>((x.1,x.2.1):eQ)) (cells':=fun f=>ab (be f)) (Ok':=fun f=>f.2.Lim) (fun x=>by simp[Ty.cells_eq]) (fun x h=>h.2.1))
  Tryz.underlying25 (by kernel_rfl:_=3) (by decide) (by kernel_rfl:_=48) (ev:=be) (ju fun v=>by rw[fE];rfl)).map id (fun l=>by simp[aN,cw]) (fun l h=>⟨by have:=h.1;rw[jf]at this;simp only[id];omega,h.2⟩)
theorem wi:∀N,Rd enc Tryz.prog W N 27 (fun v:Ty=>v.cells) Ty.Lim
 |0=>.zero
 | N+1=>(eS Tryz.underlying27 (by kernel_rfl) (aS (oG Tryz.underlying3) rfl (by kernel_rfl:_=1) (aS ((lX (wi N)).le (Gf N)) rfl (by kernel_rfl:_=1) fO))).map (fun x=>Ty.mk x.1 x.2.1)
   (fun x=>by simp[Ty.cells_eq,Ty.kind,Ty.fields]) (fun x h=>Ty.lim_mk h.2.1.1 h.2.1.2)
end
end Go.Proofs.YteemeakjlfnapaaGreatDoor
namespace Go.Proofs.YteemeakjlfnapaaGreatDoor
open Go Go.Av Go.Av.Ap Go.RowKit
set_option maxRecDepth 1000000
section
variable {H:Type} {enc:TypeId×Value->H} {W:World}
theorem sJ(N:Nat):Rd enc Tryz.prog W N 35 (fun l:List bT=>[strs l]) (fun l=>l.length<=8796093022208):=
 (je (jO Tryz.underlying9) Tryz.underlying35 (by kernel_rfl:_=1) (by decide) (by kernel_rfl:_=16) (uV fun _=>rfl)).map id (fun _=>rfl) (fun l h=>by have:=h.1;rw[jf]at this;simp only[id];omega)
theorem Exp.lim_mk{o n:Int}{s m:bT}{ns:List bT}{es:List Exp}(h1:ns.length<=8796093022208)(h2:es.length<=140737488355328)(h3:∀v∈es,v.Lim):(Exp.mk o n s m ns es).Lim:=fun j=>match j with
 |0=>trivial
 |j+1=>⟨h1,h2,fun x hx=>h3 x hx j⟩
theorem lW{N:Nat}(h:Rd enc Tryz.prog W N 47 (fun v:Exp=>v.cells) Exp.Lim):Rd enc Tryz.prog W N 36 (fun l:List Exp=>[bG l]) (fun l=>l.length<=140737488355328/\∀v∈l,v.Lim):=
 (je h Tryz.underlying36 (by kernel_rfl:_=6) (by decide) (by kernel_rfl:_=96) (ev:=Exp.av) (ju fun v=>rfl)).map id (fun l=>by simp[bG,eW]) (fun l h=>⟨by have:=h.1;rw[jf]at this;simp only[id];omega,h.2⟩)
theorem rI:∀N,Rd enc Tryz.prog W N 47 (fun v:Exp=>v.cells) Exp.Lim
 |0=>.zero
 | N+1=>(eS Tryz.underlying47 (by kernel_rfl) (aS (oG Tryz.underlying3) rfl (by kernel_rfl:_=1) (aS (oG Tryz.underlying3) rfl (by kernel_rfl:_=1) (aS (jO Tryz.underlying9) rfl (by kernel_rfl:_=1) (aS (jO Tryz.underlying9) rfl (by kernel_rfl:_=1)
   (aS (sJ N) rfl (by kernel_rfl:_=1) (aS (lW (rI N)) rfl (by kernel_rfl:_=1) fO))))))).map (fun x=>Exp.mk x.1 x.2.1 x.2.2.1 x.2.2.2.1 x.2.2.2.2.1 x.2.2.2.2.2.1) (fun x=>by simp[Exp.cells_eq,Exp.op,Exp.n,Exp.s,Exp.m,Exp.names,Exp.args]) (fun x h=>Exp.lim_mk h.2.2.2.2.1 h.2.2.2.2.2.1.1 h.2.2.2.2.2.1.2)
theorem oE(N:Nat):Rd enc Tryz.prog W N 36 (fun l:List Exp=>[bG l]) (fun l=>l.length<=140737488355328/\∀v∈l,v.Lim):=lW (rI N)
theorem oF(N:Nat):Rd enc Tryz.prog W N 25 (fun l:List eQ=>[aN l]) (fun l=>l.length<=140737488355328/\∀v∈l,v.2.Lim):=(lX (wi N)).le (Gf N)
theorem Ag(N:Nat):Rd enc Tryz.prog W (N+1) 73 (fun f:Fun=>ab f.av) Fun.Lim:=
 (eS Tryz.underlying73 (by kernel_rfl) (aS (jO Tryz.underlying9) rfl (by kernel_rfl:_=1) (aS (sI Tryz.underlying4) rfl (by kernel_rfl:_=1) (aS (oF N) rfl (by kernel_rfl:_=1) (aS (wi N) rfl (by kernel_rfl:_=2)
  (aS (oG Tryz.underlying3) rfl (by kernel_rfl:_=1) (aS (rI N) rfl (by kernel_rfl:_=6) fO))))))).map (fun x=>(⟨x.1,x.2.1,x.2.2.1,x.2.2.2.1,x.2.2.2.2.1,x.2.2.2.2.2.1⟩:Fun))
  (fun x=>by simp[Ty.cells_eq,Exp.cells_eq]) (fun x h=>⟨h.2.2.1.1,h.2.2.1.2,h.2.2.2.1,h.2.2.2.2.2.1⟩)
theorem xU(N:Nat):Rd enc Tryz.prog W N 37 (fun l:List Fun=>[bY l]) (fun l=>l.length<=140737488355328/\∀v∈l,v.Lim):=
 ((je (Ag N) Tryz.underlying37 (by kernel_rfl:_=12) (by decide) (by kernel_rfl:_=184) (ev:=Fun.av) (ju fun v=>rfl)).map id (fun l=>by simp[bY]) (fun l h=>⟨by have:=h.1;rw[jf]at this;simp only[id];omega,h.2⟩)).le (Gf N)
theorem Ah(N:Nat):Rd enc Tryz.prog W (N+1) 41 (fun m:Mod=>ab m.av) Mod.Lim:=
 (eS Tryz.underlying41 (by kernel_rfl) (aS (jO Tryz.underlying9) rfl (by kernel_rfl:_=1) (aS (sJ N) rfl (by kernel_rfl:_=1) (aS (oF N) rfl (by kernel_rfl:_=1) (aS (oE N) rfl (by kernel_rfl:_=1)
  (aS (xU N) rfl (by kernel_rfl:_=1) (aS (sI Tryz.underlying4) rfl (by kernel_rfl:_=1)
  (aS ((eS Tryz.underlying39 (by kernel_rfl) (aS (oF N) rfl (by kernel_rfl:_=1) (aS (oE N) rfl (by kernel_rfl:_=1) (aS (oE N) rfl (by kernel_rfl:_=1) fO)))).le (Gf N)) rfl (by kernel_rfl:_=3) fO)))))))).map
  (fun x=>(⟨x.1,x.2.1,x.2.2.1,x.2.2.2.1,x.2.2.2.2.1,x.2.2.2.2.2.1,x.2.2.2.2.2.2.1.1,x.2.2.2.2.2.2.1.2.1,x.2.2.2.2.2.2.1.2.2.1⟩:Mod))
  (fun x=>by simp) (fun x h=>⟨by have:=h.2.1;simp only;omega,h.2.2.1.1,h.2.2.1.2,h.2.2.2.1.1,h.2.2.2.1.2,h.2.2.2.2.1.1,h.2.2.2.2.1.2,h.2.2.2.2.2.2.1.1.1,h.2.2.2.2.2.2.1.1.2,h.2.2.2.2.2.2.1.2.1.1,h.2.2.2.2.2.2.1.2.1.2,h.2.2.2.2.2.2.1.2.2.1.1,h.2.2.2.2.2.2.1.2.2.1.2⟩)
end
end Go.Proofs.YteemeakjlfnapaaGreatDoor
namespace Go.Proofs.YteemeakjlfnapaaGreatDoor
open Go Go.Av Go.Av.Ap
set_option maxRecDepth 100000
@[simp] theorem Bq(t:Nat)(a b:Int):ar T .geq t (.int .u8 a) (.int .u8 b)=some (.bool (decide (b<=a))):=rfl
@[simp] theorem Br(t:Nat)(a b:Int):ar T .leq t (.int .u8 a) (.int .u8 b)=some (.bool (decide (a<=b))):=rfl
@[simp] theorem sQ(t:Nat)(a b:bT):ar T .leq t (.str a) (.str b)=some (.bool (aC a b||a== b)):=rfl
def xH(f:AV)(F:Ty->Bool)(l:List Ty)(hb:l.length<=4611686018427387904)(hf:∀x∈l,dU (ak pg) f [Ty.av x]=M.pure (.bool (F x))):∀(n:Nat)(i:Int),l.length-i.toNat=n->0<=i->i<=l.length->
  aj (L204_0 (ak pg) aj) [ky l,f,.int .i64 l.length,.int .i64 i]=M.pure (.int .i64 (dG F (l.drop i.toNat) i)):=by
 intro n
 induction n with
 |zero=>
  intro i hn hi hl;rw[FL204_0];simp only[L204_0];have h1:¬(i<(l.length:Int)):=by omega
  have h2:l.drop i.toNat=[]:=EB (by omega);simp[h1,h2,dG]
 |succ n ih=>
  intro i hn hi hl;have h1:i<(l.length:Int):=by omega
  have hlt:i.toNat<l.length:=by omega
  have h2:dG F (l.drop i.toNat) i=if F l[i.toNat]=true then i else dG F (l.drop (i.toNat+1)) (i+1):=by rw[Et hlt];rfl
  have h3:=hf l[i.toNat] (DV hlt);have h4:=ih (i+1) (by omega) (by omega) (by omega);rw[show (i+1).toNat=i.toNat+1 by omega]at h4;rw[FL204_0];simp only[L204_0];simp (disch:=omega) [h1,dw,yE,h3,h2];cases F l[i.toNat]
  ·simpa using h4
  ·simp
def t204(f:AV)(F:Ty->Bool)(l:List Ty)(hb:l.length<=4611686018427387904)(hc:∀g,cl g f=f)(hf:∀x∈l,dU (ak pg) f [Ty.av x]=M.pure (.bool (F x))):ak pg 204 [ky l,f]=M.pure (.int .i64 (dG F l 0)):=by
 rw[C204];simp[S204,hc,xH f F l hb hf l.length 0 rfl (by omega) (by omega)]
def t148(f:AV)(F:Ty->Bool)(l:List Ty)(hb:l.length<=4611686018427387904)(hc:∀g,cl g f=f)(hf:∀x∈l,dU (ak pg) f [Ty.av x]=M.pure (.bool (F x))):ak pg 148 [ky l,f]=M.pure (.bool (l.any F)):=by
 rw[C148];simp[S148,hc,t204 f F l hb hc hf,tz]
def xD(f:AV)(F:Sig->Bool)(l:List Sig)(hb:l.length<=4611686018427387904)(hf:∀x∈l,dU (ak pg) f [Sig.av x]=M.pure (.bool (F x))):∀(n:Nat)(i:Int),l.length-i.toNat=n->0<=i->i<=l.length->
  aj (L101_0 (ak pg) aj) [sigs l,f,.int .i64 l.length,.int .i64 i]=M.pure (.int .i64 (dG F (l.drop i.toNat) i)):=by
 intro n
 induction n with
 |zero=>
  intro i hn hi hl;rw[FL101_0];simp only[L101_0];have h1:¬(i<(l.length:Int)):=by omega
  have h2:l.drop i.toNat=[]:=EB (by omega);simp[h1,h2,dG]
 |succ n ih=>
  intro i hn hi hl;have h1:i<(l.length:Int):=by omega
  have hlt:i.toNat<l.length:=by omega
  have h2:dG F (l.drop i.toNat) i=if F l[i.toNat]=true then i else dG F (l.drop (i.toNat+1)) (i+1):=by rw[Et hlt];rfl
  have h3:=hf l[i.toNat] (DV hlt);have h4:=ih (i+1) (by omega) (by omega) (by omega);rw[show (i+1).toNat=i.toNat+1 by omega]at h4;rw[FL101_0];simp only[L101_0];simp (disch:=omega) [h1,dw,t6,h3,h2];cases F l[i.toNat]
  ·simpa using h4
  ·simp
def t101(f:AV)(F:Sig->Bool)(l:List Sig)(hb:l.length<=4611686018427387904)(hc:∀g,cl g f=f)(hf:∀x∈l,dU (ak pg) f [Sig.av x]=M.pure (.bool (F x))):ak pg 101 [sigs l,f]=M.pure (.int .i64 (dG F l 0)):=by
 rw[C101];simp[S101,hc,xD f F l hb hf l.length 0 rfl (by omega) (by omega)]
def t199(b:UInt8):ak pg 199 [.int .u8 b.toNat]=M.pure (.bool (kE b)):=by
 rw[C199];have e:decide ((b.toNat:Int)<=122)=decide (b.toNat<=122):=ER.2 (by omega);have e2:decide (97<=(b.toNat:Int))=decide (97<=b.toNat):=ER.2 (by omega);simp[S199,kE,e,e2]
def t202(b:UInt8):ak pg 202 [.int .u8 b.toNat]=M.pure (.bool (q7 b)):=by
 rw[C202];have e:decide ((b.toNat:Int)<=57)=decide (b.toNat<=57):=ER.2 (by omega);have e2:decide (48<=(b.toNat:Int))=decide (48<=b.toNat):=ER.2 (by omega);simp[S202,q7,e,e2]
def t201(b:UInt8):ak pg 201 [.int .u8 b.toNat]=M.pure (.bool (kP b)):=by
 rw[C201];simp[S201,t199,t202,kP]
theorem yx{s:bT}{i:Nat}(h:i<s.length):d7 T 9 (.str s) (.int .i64 (i:Int))=some (.int .u8 (s[i].toNat:Int)):=by
 have e1:d7 T 9 (.str s) (.int .i64 (i:Int))=(if(i:Int)<0 then none else s[(i:Int).toNat]?.map fun b=>.int .u8 b.toNat):=rfl;rw[e1,if_neg (by omega),DT,DR h];rfl
def xG(F:UInt8->Bool)(f:AV)(s:bT)(hb:s.length<=4611686018427387904)(hf:∀b:UInt8,dU (ak pg) f [.int .u8 b.toNat]=M.pure (.bool (F b))):∀(n i:Nat),s.length-i=n->i<=s.length->
  aj (L200_0 (ak pg) aj) [.str s,f,.int .i64 i]=M.pure (.int .i64 ((i+((s.drop i).takeWhile F).length:Nat):Int)):=by
 intro n
 induction n with
 |zero=>
  intro i hn hi;rw[FL200_0];simp only[L200_0];have h1:¬((i:Int)<(s.length:Int)):=by omega
  have h2:s.drop i=[]:=EB (by omega);simp[h1,h2]
 | succ n ih=>
  intro i hn hi;have hlt:i<s.length:=by omega
  have h1:(i:Int)<(s.length:Int):=by omega
  have h2:s.drop i=s[i]:: s.drop (i+1):=Et hlt;have h4:=ih (i+1) (by omega) (by omega);have hw:IntKind.i64.wrap ((i:Int)+1)=((i+1:Nat):Int):=aU (by omega);rw[FL200_0];simp only[L200_0,aY,a7,CB,aO,bL,h1,EN,dM,yx hlt,hf,aX,gd,bb,ej,hw,h4,h2,List.takeWhile_cons];cases F s[i]
  ·simp
  ·rw[DG rfl,DG rfl];congr 3;simp;omega
def t146(s:bT):ak pg 146 [.str s]=M.pure (.bool (kq s)):=by
 rw[C146];by_cases hs:s=[]
 ·subst hs;simp[S146,kq]
 ·have hs':(s== [])=false:=EX.2 hs;have hpos:0<s.length:=E7.2 hs;have h0:=yx (s:=s) (i:=0) hpos;have hd:s[0]=s.headD 0:=by cases s with|nil=>exact absurd rfl hs|cons c s=>rfl
  rw[hd]at h0;simp at h0;by_cases hl:s.length<=20
  ·have h1:=xG kP (.fn (.func 201) [] []) s (by omega) (fun b=>t201 b) s.length 0 (by simp) (by simp);have hsp:ak pg 200 [.str s,.fn (.func 201) [] []]=M.pure (.int .i64 (((s.takeWhile kP).length:Nat):Int)):=by
    rw[C200];simp only[S200,cl,dz];rw[show (AV.int .i64 0)=AV.int .i64 ((0:Nat):Int)from rfl,h1];simp
   have e1:decide (20<(s.length:Int))=false:=by rw[E6];omega
   have e3:decide (20<s.length)=false:=by rw[E6];omega
   have e4:decide (s.length<=20)=true:=by simpa using hl
   simp[S146,hs',h0,t199,hsp,e1,e3,e4,kq]
  ·have e1:decide (20<(s.length:Int))=true:=by rw[DK];omega
   have e3:decide (20<s.length)=true:=by rw[DK];omega
   have e4:decide (s.length<=20)=false:=by simpa using hl
   simp[S146,hs',h0,t199,e1,e3,e4,kq]
def t147(s:bT):ak pg 147 [.str gZ,.str s]=M.pure (.bool (Lib.contains gZ s)):=by
 rw[eu hOther (E:=fB) rfl];rfl
theorem sP(t:Nat)(a b:bT):ar T .add t (.str a) (.str b)=if a.length+b.length<=4611686018427387904 then some (.str (a++b))else none:=rfl
def t76(s:bT):ak pg 76 [.str s]=M.pure (.bool (bw s)):=by
 rw[C76];have h1:=t146 s;unfold bw;cases hw:kq s with
 |false=>
  rw[hw]at h1;simp[S76,h1]
 |true=>
  have hl:=tY hw;rw[hw]at h1;have h2:=t147 ([32]++s++[32]);unfold gZ at h2;have e1:ar T .add 9 (.str [32]) (.str s)=some (.str ([32]++s)):=by rw[sP,DG (by simp;omega)]
  have e2:ar T .add 9 (.str ([32]++s)) (.str [32])=some (.str ([32]++s++[32])):=by rw[sP,DG (by simp;omega)]
  simp only[S76,qY,h1,aX,dM,e1,aO,e2,h2,kH,aY,gd,fG,E5];rfl
def xA{t:Ty}(h:t.Lim)(k:Nat)(hk:k<t.fields.length):(t.fields[k]!).2.Lim:=by
 rw[D2 t.fields k hk];exact h.kid (DV hk)
theorem t116:∀(d:Nat),d<=4->∀(t:Ty),t.Lim->ak pg 116 [t.av,.int .i64 d]=M.pure (.bool (cT d t))
 |0,_,t,_=>by
  rw[C116];simp[S116,cT]
 | d + 1,hd,t,ht=>by
  have ih:=t116 d (by omega);have hlen:=ht.len;have hd1:IntKind.i64.wrap ((((d+1:Nat)):Int)-1)=(d:Int):=hG (by omega);have hloop:=od (F:=L116_0 (ak pg) aj) (FL116_0 (ak pg)) (fun k=>[.int .i64 ((d+1:Nat):Int),.ip (ab t.av),aN t.fields,.int .i64 t.fields.length,.int .i64 k]) t.fields.length
   (fun k=>(bw (t.fields[k]!).1&&cT d (t.fields[k]!).2)&&(decide (k=0)||dy (t.fields[k-1]!).1 (t.fields[k]!).1))
   (by simp[L116_0]) (fun k hk=>by
    have h1:(k:Int)<(t.fields.length:Int):=by omega
    have hix:=nJ (l:=t.fields) (n:=(k:Int)) (by omega) h1;rw[DT]at hix;have hm:t.fields[k]! ∈t.fields:=by rw[D2 t.fields k hk];exact DV hk
    have h2:=t76 (t.fields[k]!).1;have h3:=ih (t.fields[k]!).2 (xA ht k hk);have hw:IntKind.i64.wrap ((k:Int)+1)=(k:Int)+1:=by rw[aU (by omega)];simp
    have hd0:IntKind.i64.wrap (d:Int)=(d:Int):=wH (by omega);generalize t.fields[k]! = f at hix h2 h3 hm |-;rcases Eh k with hk0|hk0
    ·subst hk0;have hix0:ao T 25 (aN t.fields) (.int .i64 0)=some (.ip (ab (be f))):=hix;have hw0:IntKind.i64.wrap 1=1:=rfl;simp[L116_0,hix0,h2,h3,hw0,hd0,hk];cases bw f.1<;>cases cT d f.2<;>simp
    ·have hp:IntKind.i64.wrap ((k:Int)-1)=((k-1:Nat):Int):=by
      rw[dw (by omega) (by omega)];omega
     have h4:((k-1:Nat):Int)<(t.fields.length:Int):=by omega
     have hix2:=nJ (l:=t.fields) (n:=((k-1:Nat):Int)) (by omega) h4;rw[DT]at hix2;generalize t.fields[k-1]! = g at hix2 |-;have hk1:¬k=0:=by omega
     simp[L116_0,h1,hix,h2,h3,hw,hd0,hp,hix2,hk0,hk1,hk];cases bw f.1<;>simp;cases h5:aC f.1 g.1<;>cases cT d f.2<;>by_cases h6:f.1=g.1<;>simp[dy,h5,h6]) 0 (Ef _)
  have hall:((List.range' 0 t.fields.length).all fun k=>(bw (t.fields[k]!).1&&cT d (t.fields[k]!).2)&&(decide (k=0)||dy (t.fields[k-1]!).1 (t.fields[k]!).1))=(t.fields.all (fun f=>bw f.1&&cT d f.2)&&gw (fun a b=>dy a.1 b.1) t.fields):=
   nP (fun f:eQ=>bw f.1&&cT d f.2) (fun a b=>dy a.1 b.1) t.fields
  rw[F8,hall]at hloop;rw[C116];have h0:¬((d:Int)+1=0):=by omega
  have hl2:aj (L116_0 (ak pg) aj) [.int .i64 ((d:Int)+1),.ip [.int .i64 t.kind,aN t.fields],aN t.fields,.int .i64 t.fields.length,.int .i64 0]=M.pure (.bool (t.fields.all (fun f=>bw f.1&&cT d f.2)&&gw (fun a b=>dy a.1 b.1) t.fields)):=by
   simpa using hloop
  have hR:cT (d+1) t=if((t.kind<0\/3<=t.kind)\/8<(t.fields.length:Int))\/¬t.kind=2/\0<t.fields.length then false else(t.fields.all (fun f=>bw f.1&&cT d f.2)&&gw (fun a b=>dy a.1 b.1) t.fields):=by
   rw[kl];generalize (t.fields.all (fun f=>bw f.1&&cT d f.2)&&gw (fun a b=>dy a.1 b.1) t.fields)=q;generalize t.fields.length=n;generalize t.kind=k;split
   ·rename_i hc;cases q
    ·simp
    ·simp only[Gj,FX,E6,FD,EX];rcases hc with((h|h)|h)|h
     ·exact .inl (.inl (.inl (by omega)))
     ·exact .inl (.inl (.inr (by omega)))
     ·exact .inl (.inr (by omega))
     ·exact .inr ⟨h.1,by omega⟩
   ·rename_i hc;have e1:decide (0<=k)=true:=by rw[DK];omega
    have e2:decide (k<3)=true:=by rw[DK];omega
    have e3:decide (n<=8)=true:=by rw[DK];omega
    have e4:(k== 2||n== 0)=true:=by
     rw[EG,EU,EU];omega
    rw[e1,e2,e3,e4];simp
  rw[hR];simp[S116,h0,hl2]
def t47(t:Ty)(ht:t.Lim):ak pg 47 [t.av]=M.pure (.bool (cO t)):=by
 rw[C47];have:ak pg 116 [t.av,.int .i64 4]=M.pure (.bool (cT 4 t)):=t116 4 (by omega) t ht;simp[S47,this]
def ty0:Ty:=.mk 0 []
def qc{α:Type}(P:α->Bool)(l:List α):(!l.any fun x=>!P x)=l.all P:=by simp[List.not_any_eq_all_not]
@[simp] theorem zi(t:Nat)(a b:Int):ar T .andNot t (.int .i64 a) (.int .i64 b)=some (.int .i64 (eL a b)):=rfl
def t149(t:Ty)(ht:t.Lim):ak pg 149 [t.av]=M.pure (.bool (!(cO t))):=by
 rw[C149];simp[S149,t47 t ht]
def t77(s:Sig)(hs:s.Lim):ak pg 77 [s.av]=M.pure (.bool (eb s)):=by
 rw[C77];have h1:=t76 s.name;have h2:=t47 s.result hs.result;have h3:=t148 (.fn (.func 149) [] []) (fun t=>!(cO t)) s.params (by have:=hs.plen;omega) (fun g=>rfl) (fun x hx=>t149 x (hs.ptys x hx));unfold eb;rw[<- qc cO s.params];generalize (s.params.any fun x=>!cO x)=q at h3 |-;by_cases g1:bw s.name=true
 ·rw [g1]at h1;by_cases g2:s.params.length<=6
  ·have g2':¬(6<(s.params.length:Int)):=by omega
   have g2n:¬(6<s.params.length):=by omega
   by_cases g3:eL s.effects 15=0
   ·by_cases g4:cO s.result=true
    ·rw[g4]at h2;simp[S77,h1,h2,h3,g1,g2,g2',g2n,g3,g4]
    ·rw[FV]at g4;rw[g4]at h2;simp[S77,h1,h2,h3,g1,g2,g2',g2n,g3,g4]
   ·have g3':(eL s.effects 15== 0)=false:=EX.2 g3;simp[S77,h1,h2,h3,g1,g2,g2',g2n,g3,g3']
  ·have g2':6<(s.params.length:Int):=by omega
   have g2n:6<s.params.length:=by omega
   simp[S77,h1,h2,h3,g1,g2,g2',g2n]
 ·rw[FV]at g1;rw[g1]at h1;simp[S77,h1,h2,h3,g1]
theorem t27(f:Face)(hf:f.Lim):ak pg 27 [f.av]=M.pure (.bool (g7 f)):=by
 have hlen:=hf.len;have hloop:=od (FL27_0 (ak pg)) (fun k=>[.ip (ab f.av),sigs f.funcs,.int .i64 f.funcs.length,.int .i64 (k:Int)]) f.funcs.length
  (fun k=>eb f.funcs[k]! && (decide (k=0)||aC (f.funcs[k-1]!).name (f.funcs[k]!).name))
  (by simp[L27_0]) (fun k hk=>by
   have h1:(k:Int)<(f.funcs.length:Int):=by omega
   have hix:=t6 (l:=f.funcs) (n:=(k:Int)) (by omega) h1;rw[DT]at hix;have hm:f.funcs[k]! ∈f.funcs:=by rw[D2 f.funcs k hk];exact DV hk
   have h2:=t77 _ (hf.sigs _ hm);have hw:IntKind.i64.wrap ((k:Int)+1)=(k:Int)+1:=by rw[aU (by omega)];simp
   generalize f.funcs[k]! = x at hix h2 hm |-;rcases Eh k with hk0|hk0
   ·subst hk0;have hix0:ao T 22 (sigs f.funcs) (.int .i64 0)=some (.ip (ab x.av)):=hix;have hw0:IntKind.i64.wrap 1=1:=rfl;simp[L27_0,hix0,h2,hw0,hk];cases eb x<;>simp
   ·have hp:IntKind.i64.wrap ((k:Int)-1)=((k-1:Nat):Int):=by
     rw[dw (by omega) (by omega)];omega
    have h4:((k-1:Nat):Int)<(f.funcs.length:Int):=by omega
    have hix2:=t6 (l:=f.funcs) (n:=((k-1:Nat):Int)) (by omega) h4;rw[DT]at hix2;generalize f.funcs[k-1]! = g at hix2 |-;have hk1:¬k=0:=by omega
    simp[L27_0,h1,hix,h2,hw,hp,hix2,hk0,hk1,hk];cases eb x<;>cases aC g.name x.name<;>simp) 0 (Ef _)
 have hall:((List.range' 0 f.funcs.length).all fun k=>eb f.funcs[k]! && (decide (k=0)||aC (f.funcs[k-1]!).name (f.funcs[k]!).name))=(f.funcs.all eb&&gw (fun a b=>aC a.name b.name) f.funcs):=
  nP eb (fun a b=>aC a.name b.name) f.funcs
 rw[F8,hall]at hloop;have hl2:aj (L27_0 (ak pg) aj) [.ip [.str f.module,sigs f.funcs],sigs f.funcs,.int .i64 f.funcs.length,.int .i64 0]=M.pure (.bool (f.funcs.all eb&&gw (fun a b=>aC a.name b.name) f.funcs)):=by
  simpa using hloop
 rw[C27];have h1:=t76 f.module;unfold g7;by_cases g1:bw f.module=true
 ·rw[g1]at h1;by_cases g2:f.funcs.length<=30
  ·have g2':¬(30<(f.funcs.length:Int)):=by omega
   have g2n:¬(30<f.funcs.length):=by omega
   simp[S27,h1,g1,g2,g2',g2n,hl2]
  ·have g2':30<(f.funcs.length:Int):=by omega
   have g2n:30<f.funcs.length:=by omega
   simp[S27,h1,g1,g2,g2',g2n]
 ·rw[FV]at g1;rw[g1]at h1;simp[S27,h1,g1]
def rn{F:(List AV->M AV)->List AV->M AV}(hF:∀vs,aj F vs=F (aj F) vs)(st:Nat->List AV)(n:Nat)(hend:∃b,F (aj F) (st n)=M.pure (.bool b))(hstep:∀k,k<n->(∃b,F (aj F) (st k)=M.pure (.bool b))\/F (aj F) (st k)=aj F (st (k+1))):
  ∀k,k<=n->∃b,aj F (st k)=M.pure (.bool b):=by
 have key:∀r k,n-k=r->k<=n->∃b,aj F (st k)=M.pure (.bool b):=by
  intro r
  induction r with
  |zero=>
   intro k hr hk;obtain rfl:k=n:=by omega
   rw[hF];exact hend
  | succ r ih=>
   intro k hr hk;rw[hF];rcases hstep k (by omega)with h|h
   ·exact h
   ·rw[h];exact ih (k+1) (by omega) (by omega)
 exact fun k hk=>key (n-k) k rfl hk
theorem yv:∀(d:Nat),d<=6->∀(t:Ty),t.Lim->∀most:Int,0<=most->most<=1000->∃r:Int,ak pg 130 [t.av,.int .i64 most,.int .i64 d]=M.pure (.int .i64 r)/\1<=r/\r<=most+1
 |0,_,t,ht,most,h0,h1=>by
  have w1:IntKind.i64.wrap (most+1)=most+1:=dw (by omega) (by omega);refine⟨most+1,?_,by omega,by omega⟩;rw[C130];simp[S130,w1]
 | d + 1,hd,t,ht,most,h0,h1=>by
  have hlen:=ht.len;have hd1:IntKind.i64.wrap (((d+1:Nat):Int)-1)=(d:Int):=hG (by omega);have hl:∀(k i:Nat),t.fields.length-i=k->i<=t.fields.length->∀m:Int,1<=m->m<=most+1->∃r:Int,aj (L130_0 (ak pg) aj) [.int .i64 most,.int .i64 ((d+1:Nat):Int),.ip (ab t.av),.int .i64 m,.int .i64 i]=M.pure (.int .i64 r)/\1<=r/\r<=most+1:=by
   intro k
   induction k with
   |zero=>
    intro i hk hi m hm1 hm2;rw[FL130_0];have h1:¬((i:Int)<(t.fields.length:Int)):=by omega
    exact⟨m,by simp[L130_0,h1],hm1,hm2⟩
   | succ k ihk=>
    intro i hk hi m hm1 hm2;rw[FL130_0];have hlt:i<t.fields.length:=by omega
    have h1':(i:Int)<(t.fields.length:Int):=by omega
    by_cases hm:m<=most
    ·have hix:=nJ (l:=t.fields) (n:=(i:Int)) (by omega) h1';rw[DT,D2 t.fields i hlt]at hix;have hm':=DV hlt;generalize t.fields[i]=f at hix hm';obtain⟨r,e1,e2,e3⟩:=yv d (by omega) f.2 (ht.kid hm') (most-m) (by omega) (by omega);obtain⟨r2,g1,g2,g3⟩:=ihk (i+1) (by omega) (by omega) (m+r) (by omega) (by omega);have w1:IntKind.i64.wrap (most-m)=most-m:=dw (by omega) (by omega);have w2:IntKind.i64.wrap (m+r)=m+r:=dw (by omega) (by omega);have w3:IntKind.i64.wrap ((i:Int)+1)=((i+1:Nat):Int):=aU (by omega);refine⟨r2,?_,g2,g3⟩;rw[<- g1];simp only[L130_0,aY,a7,bK,FA27_1,aO,EJ,Ev,LD25,t7,bL,iG,h1',hm,EN,dM,aX,gd,bb,Ep,hix,ct,FA76_1,LD27,D4,D3,DW,Nat.reduceAdd,DD,Eo,Eu,de,nS,w1,hd1,e1,ej,w2,w3]
    ·exact⟨m,by simp[L130_0,h1',hm],hm1,hm2⟩
  obtain⟨r,e1,e2,e3⟩:=hl t.fields.length 0 rfl (by omega) 1 (by omega) (by omega);refine⟨r,?_,e2,e3⟩;rw[C130];have e1':aj (L130_0 (ak pg) aj) [.int .i64 most,.int .i64 ((d+1:Nat):Int),.ip (ab t.av),.int .i64 1,.int .i64 0]=M.pure (.int .i64 r):=e1;have hge:¬((((d+1:Nat):Int))<1):=by omega
  simp only[S130,kV,uP,bL,aO,hge,Fw,bb,Ee,EH,e1',vD]
def BI(t:Ty)(ht:t.Lim):∃b,ak pg 53 [t.av]=M.pure (.bool b):=by
 obtain⟨r,e1,e2,e3⟩:=yv 6 (by omega) t ht 40 (by omega) (by omega);have e1':ak pg 130 [t.av,.int .i64 40,.int .i64 6]=M.pure (.int .i64 r):=e1;rw[C53];exact⟨decide (r<=40),by simp[S53,e1']⟩
theorem yu:∀(d:Nat),d<=14->∀(e:Exp),e.Lim->∀most:Int,0<=most->most<=1000->∃r:Int,ak pg 129 [e.av,.int .i64 most,.int .i64 d]=M.pure (.int .i64 r)/\1<=r/\r<=most+1
 |0,_,e,he,most,h0,h1=>by
  have w1:IntKind.i64.wrap (most+1)=most+1:=dw (by omega) (by omega);refine⟨most+1,?_,by omega,by omega⟩;rw[C129];simp[S129,w1]
 | d + 1,hd,e,he,most,h0,h1=>by
  have hlen:=he.len;have hd1:IntKind.i64.wrap (((d+1:Nat):Int)-1)=(d:Int):=hG (by omega);have hl:∀(k i:Nat),e.args.length-i=k->i<=e.args.length->∀m:Int,1<=m->m<=most+1->∃r:Int,aj (L129_0 (ak pg) aj) [.int .i64 most,.int .i64 ((d+1:Nat):Int),.ip (ab e.av),.int .i64 m,.int .i64 i]=M.pure (.int .i64 r)/\1<=r/\r<=most+1:=by
   intro k
   induction k with
   |zero=>
    intro i hk hi m hm1 hm2;rw[FL129_0];have h1:¬((i:Int)<(e.args.length:Int)):=by omega
    exact⟨m,by simp[L129_0,h1],hm1,hm2⟩
   | succ k ihk=>
    intro i hk hi m hm1 hm2;rw[FL129_0];have hlt:i<e.args.length:=by omega
    have h1':(i:Int)<(e.args.length:Int):=by omega
    by_cases hm:m<=most
    ·have hix:=wP (l:=e.args) (n:=(i:Int)) (by omega) h1';rw[DT,D2 e.args i hlt]at hix;have hm':=DV hlt;generalize e.args[i]=f at hix hm';obtain⟨r,e1,e2,e3⟩:=yu d (by omega) f (he.kid hm') (most-m) (by omega) (by omega);obtain⟨r2,g1,g2,g3⟩:=ihk (i+1) (by omega) (by omega) (m+r) (by omega) (by omega);have w1:IntKind.i64.wrap (most-m)=most-m:=dw (by omega) (by omega);have w2:IntKind.i64.wrap (m+r)=m+r:=dw (by omega) (by omega);have w3:IntKind.i64.wrap ((i:Int)+1)=((i+1:Nat):Int):=aU (by omega);refine⟨r2,?_,g2,g3⟩;rw[<- g1];simp only[L129_0,aY,a7,cr,FA47_5,aO,EJ,Ev,LD36,yH,bL,iG,h1',hm,EN,dM,aX,gd,bb,Ep,hix,LD47,D4,D3,DW,Nat.reduceAdd,DD,Eo,Eu,dq,nS,w1,hd1,e1,ej,w2,w3]
    ·exact⟨m,by simp[L129_0,h1',hm],hm1,hm2⟩
  have hge:¬((((d+1:Nat):Int))<1):=by omega
  have hge':¬((d:Int)+1<1):=by omega
  have w1:IntKind.i64.wrap (most+1)=most+1:=dw (by omega) (by omega);by_cases h10:10<(e.names.length:Int)
  ·refine⟨most+1,?_,by omega,by omega⟩;have h10':10<e.names.length:=by omega
   rw[C129];simp[S129,hge',h10,h10',w1]
  ·obtain⟨r,e1,e2,e3⟩:=hl e.args.length 0 rfl (by omega) 1 (by omega) (by omega);refine⟨r,?_,e2,e3⟩;have h10':¬10<e.names.length:=by omega
   have e1':aj (L129_0 (ak pg) aj) [.int .i64 most,.int .i64 ((d:Int)+1),.ip [.int .i64 e.op,.int .i64 e.n,.str e.s,.str e.m,strs e.names,bG e.args],.int .i64 1,.int .i64 0]=M.pure (.int .i64 r):=by
    simp only[cr]at e1;exact e1
   rw[C129];simp[S129,hge',h10,h10',e1']
def BH(e:Exp)(he:e.Lim):∃b,ak pg 52 [e.av]=M.pure (.bool b):=by
 obtain⟨r,e1,e2,e3⟩:=yu 14 (by omega) e he 60 (by omega) (by omega);have e1':ak pg 129 [e.av,.int .i64 60,.int .i64 14]=M.pure (.int .i64 r):=e1;rw[C52];exact⟨decide (r<=60),by simp[S52,e1']⟩
def zG(l:List eQ)(hb:l.length<=140737488355328)(ht:∀f∈l,f.2.Lim):∃b,ak pg 81 [aN l]=M.pure (.bool b):=by
 obtain⟨b,hb⟩:=rn (FL81_0 (ak pg)) (fun k=>[aN l,.int .i64 (k:Int)]) l.length ⟨decide ((l.length:Int)<=8),by simp[L81_0]⟩ (fun k hk=>by
  have h1:(k:Int)<(l.length:Int):=by omega
  have hix:=nJ (l:=l) (n:=(k:Int)) (by omega) h1;rw[DT,D2 l k hk]at hix;have hm':=DV hk;generalize l[k]=f at hix hm';have w3:IntKind.i64.wrap ((k:Int)+1)=(k:Int)+1:=by rw[aU (by omega)];simp
  obtain⟨b,hb⟩:=BI f.2 (ht f hm');by_cases h9:(k:Int)<9
  ·have h9':k<9:=by omega
   cases b with
   |false=>exact .inl ⟨false,by simp[L81_0,h1,hk,hix,hb,h9,h9']⟩
   |true=>exact .inr (by simp[L81_0,h1,hk,hix,hb,h9,h9',w3])
  ·have h9':¬k<9:=by omega
   exact .inl ⟨decide ((l.length:Int)<=8),by simp[L81_0,h1,hk,h9,h9']⟩) 0 (Ef _)
 refine⟨b,?_⟩;rw[C81];have hb':aj (L81_0 (ak pg) aj) [aN l,.int .i64 0]=M.pure (.bool b):=hb;simp only[S81,kA,hb',fG]
def zH(l:List Exp)(hb:l.length<=140737488355328)(ht:∀f∈l,f.Lim):∃b,ak pg 82 [bG l]=M.pure (.bool b):=by
 obtain⟨b,hb⟩:=rn (FL82_0 (ak pg)) (fun k=>[bG l,.int .i64 (k:Int)]) l.length ⟨decide ((l.length:Int)<=8),by simp[L82_0]⟩ (fun k hk=>by
  have h1:(k:Int)<(l.length:Int):=by omega
  have hix:=wP (l:=l) (n:=(k:Int)) (by omega) h1;rw[DT,D2 l k hk]at hix;have hm':=DV hk;generalize l[k]=f at hix hm';have w3:IntKind.i64.wrap ((k:Int)+1)=(k:Int)+1:=by rw[aU (by omega)];simp
  obtain⟨b,hb⟩:=BH f (ht f hm');by_cases h9:(k:Int)<9
  ·have h9':k<9:=by omega
   cases b with
   |false=>exact .inl ⟨false,by simp[L82_0,h1,hk,hix,hb,h9,h9']⟩
   |true=>exact .inr (by simp[L82_0,h1,hk,hix,hb,h9,h9',w3])
  ·have h9':¬k<9:=by omega
   exact .inl ⟨decide ((l.length:Int)<=8),by simp[L82_0,h1,hk,h9,h9']⟩) 0 (Ef _)
 refine⟨b,?_⟩;rw[C82];have hb':aj (L82_0 (ak pg) aj) [bG l,.int .i64 0]=M.pure (.bool b):=hb;simp only[S82,xk,hb',fG]
def CV(m:Ap.Mod)(hm:m.Lim):∃b,ak pg 30 [m.av]=M.pure (.bool b):=by
 have f1:=hm.funcs;obtain⟨b1,e1⟩:=zG m.vars hm.vars hm.vty;obtain⟨b2,e2⟩:=zH m.init hm.init hm.ies;obtain⟨b3,e3⟩:=zG m.old hm.old hm.oty;obtain⟨b4,e4⟩:=zH m.forward hm.forward hm.fes;obtain⟨b5,e5⟩:=zH m.back hm.back hm.bes
 have base:∃b,L30_0 (ak pg) aj (aj (L30_0 (ak pg) aj)) [.ip (ab m.av),.int .i64 (m.funcs.length:Int)]=M.pure (.bool b):=by
  cases hq:(decide ((m.funcs.length:Int)<=6)&&decide ((m.uses.length:Int)<=6))with
  |false=>exact⟨false,by simp[L30_0];rw[hq];simp⟩
  | true=>cases b1 with
   |false=>exact⟨false,by simp[L30_0];rw[hq];simp[e1]⟩
   | true=>cases b2 with
    |false=>exact⟨false,by simp[L30_0];rw[hq];simp[e1,e2]⟩
    | true=>cases b3 with
     |false=>exact⟨false,by simp[L30_0];rw[hq];simp[e1,e2,e3]⟩
     |true=>cases b4 with
      |false=>exact⟨false,by simp[L30_0];rw[hq];simp[e1,e2,e3,e4]⟩
      |true=>exact⟨b5,by simp[L30_0];rw[hq];simp[e1,e2,e3,e4,e5]⟩
 obtain⟨b0,hb0⟩:=base;obtain⟨b,hb⟩:=rn (FL30_0 (ak pg)) (fun k=>[.ip (ab m.av),.int .i64 (k:Int)]) m.funcs.length ⟨b0,hb0⟩ (fun k hk=>by
  have h1:(k:Int)<(m.funcs.length:Int):=by omega
  have hix:=wQ (l:=m.funcs) (n:=(k:Int)) (by omega) h1;rw[DT,D2 m.funcs k hk]at hix;have hm':=DV hk;generalize m.funcs[k]=f at hix hm';have hf:=hm.fns f hm';have w3:IntKind.i64.wrap ((k:Int)+1)=(k:Int)+1:=by rw[aU (by omega)];simp
  obtain⟨c1,g1⟩:=zG f.params hf.params hf.pty;obtain⟨c2,g2⟩:=BI f.result hf.result;obtain⟨c3,g3⟩:=BH f.body hf.body;by_cases h12:k<7
  ·have h12':(k:Int)<7:=by omega
   cases c1 with
   |false=>exact .inl ⟨false,by simp[L30_0,h1,hk,hix,h12,h12',g1]⟩
   | true=>cases c2 with
    |false=>exact .inl ⟨false,by simp[L30_0,h1,hk,hix,h12,h12',g1,g2]⟩
    |true=>cases c3 with
     |false=>exact .inl ⟨false,by simp[L30_0,h1,hk,hix,h12,h12',g1,g2,g3]⟩
     |true=>exact .inr (by simp[L30_0,h1,hk,hix,h12,h12',g1,g2,g3,w3])
  ·have h12':¬(k:Int)<7:=by omega
   refine .inl ⟨b0,?_⟩;rw[<- hb0];simp[L30_0,h1,hk,h12,h12']) 0 (Ef _)
 refine⟨b,?_⟩;rw[C30];have hb':aj (L30_0 (ak pg) aj) [.ip (ab m.av),.int .i64 0]=M.pure (.bool b):=hb;simp only[S30,kU,hb',fG]
def kC{F:(List AV->M AV)->List AV->M AV}(hF:∀vs,aj F vs=F (aj F) vs)(st:Nat->List AV)(n:Nat)(hend:F (aj F) (st n)=M.pure (.bool true))(hstep:∀k,k<n->F (aj F) (st k)=aj F (st (k+1))):aj F (st 0)=M.pure (.bool true):=by
 have h:=od hF st n (fun _=>true) hend (fun k hk=>by rw[DG rfl];exact hstep k hk) 0 (Ef _);rw[h];congr 2;simp
def qE{t:Ty}{f:eQ}(h:f∈t.fields):SizeOf.sizeOf f.2<SizeOf.sizeOf t:=by
 cases t with
 |mk k fs=>
  have h1:=List.sizeOf_lt_of_mem (show f∈fs from h);obtain⟨a,b⟩:=f;simp only[Prod.mk.sizeOf_spec]at h1;simp only[Ty.mk.sizeOf_spec];omega
def t105:∀(n:Nat)(t:Ty),SizeOf.sizeOf t<=n->t.Lim->ak pg 105 [t.av,t.av]=M.pure (.bool true):=by
 intro n
 induction n with
 |zero=>intro t h;cases t;simp at h
 | succ n ih=>
  intro t hs ht;have hlen:=ht.len;have h:=kC (FL105_0 (ak pg)) (fun k=>[.ip (ab t.av),.ip (ab t.av),.int .i64 (k:Int)]) t.fields.length (by simp[L105_0]) (fun k hk'=>by
   have h1:(k:Int)<(t.fields.length:Int):=by omega
   have hix:=nJ (l:=t.fields) (n:=(k:Int)) (by omega) h1;rw[DT,D2 t.fields k hk']at hix;have hmm:=DV hk';have hm:=ih t.fields[k].2 (by have:=qE hmm;omega) (ht.kid hmm);have hw:IntKind.i64.wrap ((k:Int)+1)=(k:Int)+1:=by rw[aU (by omega)];simp
   generalize t.fields[k]=f at hix hm;simp[L105_0,h1,hk',hix,hm,hw])
  have h':aj (L105_0 (ak pg) aj) [.ip (ab t.av),.ip (ab t.av),.int .i64 0]=M.pure (.bool true):=h;simp only[bK]at h';rw[C105];simp[S105,h']
def t40(s:Sig)(hs:s.Lim):ak pg 40 [s.av,s.av]=M.pure (.bool true):=by
 have hlen:=hs.plen;have h:=kC (FL40_0 (ak pg)) (fun k=>[.ip (ab s.av),.ip (ab s.av),.int .i64 (k:Int)]) s.params.length (by simp[L40_0]) (fun k hk'=>by
  have h1:(k:Int)<(s.params.length:Int):=by omega
  have hix:=yE (l:=s.params) (n:=(k:Int)) (by omega) h1;rw[DT,D2 s.params k hk']at hix;have hm:=t105 _ s.params[k] (DD _) (hs.ptys _ (DV hk'));have hw:IntKind.i64.wrap ((k:Int)+1)=(k:Int)+1:=by rw[aU (by omega)];simp
  generalize s.params[k]=f at hix hm;simp[L40_0,h1,hk',hix,hm,hw])
 have h':aj (L40_0 (ak pg) aj) [.ip (ab s.av),.ip (ab s.av),.int .i64 0]=M.pure (.bool true):=h;simp only[dx]at h';have hr:=t105 _ s.result (DD _) hs.result;rw[C40];simp[S40,h',hr]
def t39(f:Face)(hf:f.Lim):ak pg 39 [f.av,f.av]=M.pure (.bool true):=by
 have hlen:=hf.len;have h:=kC (FL39_0 (ak pg)) (fun k=>[.ip (ab f.av),.ip (ab f.av),.int .i64 (k:Int)]) f.funcs.length (by simp[L39_0]) (fun k hk'=>by
  have h1:(k:Int)<(f.funcs.length:Int):=by omega
  have hix:=t6 (l:=f.funcs) (n:=(k:Int)) (by omega) h1;rw[DT,D2 f.funcs k hk']at hix;have hm:=t40 f.funcs[k] (hf.sigs _ (DV hk'));have hw:IntKind.i64.wrap ((k:Int)+1)=(k:Int)+1:=by rw[aU (by omega)];simp
  generalize f.funcs[k]=s at hix hm;simp[L39_0,h1,hk',hix,hm,hw])
 have h':aj (L39_0 (ak pg) aj) [.ip (ab f.av),.ip (ab f.av),.int .i64 0]=M.pure (.bool true):=h;simp only[fk]at h';rw[C39];simp[S39,h']
def t120(l:List eQ)(hb:l.length<=4611686018427387904)(hk:∀f∈l,ak pg 121 [be f,be f]=M.pure (.bool true)):ak pg 120 [aN l,aN l,.fn (.func 121) [] []]=M.pure (.bool true):=by
 have h:=kC (FL120_0 (ak pg)) (fun k=>[aN l,.fn (.func 121) [] [],aN l,.int .i64 l.length,.int .i64 (k:Int)]) l.length (by simp[L120_0]) (fun k hk'=>by
  have h1:(k:Int)<(l.length:Int):=by omega
  have hix:=nJ (l:=l) (n:=(k:Int)) (by omega) h1;rw[DT,D2 l k hk']at hix;have hm:=hk _ (DV hk');have hw:IntKind.i64.wrap ((k:Int)+1)=(k:Int)+1:=by rw[aU (by omega)];simp
  generalize l[k]=f at hix hm;have hv:dU (ak pg) (.fn (.func 121) [] []) [be f,be f]=M.pure (.bool true):=hm;simp[L120_0,h1,hk',hix,hv,hw])
 have h':aj (L120_0 (ak pg) aj) [aN l,.fn (.func 121) [] [],aN l,.int .i64 l.length,.int .i64 0]=M.pure (.bool true):=h;rw[C120];simp[S120,cl,dz,h']
def t49:∀(n:Nat)(t:Ty),SizeOf.sizeOf t<=n->t.Lim->ak pg 49 [t.av,t.av]=M.pure (.bool true):=by
 intro n
 induction n with
 |zero=>intro t h;cases t;simp at h
 | succ n ih=>
  intro t hs ht;have h2:=t120 t.fields (by have:=ht.len;omega) (fun f hf=>by
   have h3:=ih f.2 (by have:=qE hf;omega) (ht.kid hf);rw[C121];simp[S121,h3])
  rw[C49];simp[S49,h2]
end Go.Proofs.YteemeakjlfnapaaGreatDoor
namespace Go.Proofs.YteemeakjlfnapaaGreatDoor
open Go Go.Av
set_option maxRecDepth 1000000
def rR:cg pg 80 29 [] []= .ok (.bool true) []:=by kernel_rfl
def jP:ak pg 29 []=M.pure (.bool true):=by
 funext h;have h1:=uM hOther rR (by simp);have e:∀h,ak pg 29 [] h=aH (bz (pg.cx (ak pg) Tryz.f29.ntmps uC) aj Tryz.f29 (pg.own 29) (dz ax [])) h:=fun h=>congrFun (az hOther rfl rfl rfl []) h;rw[e]at h1 |-;unfold aH at h1 |-;generalize bz (pg.cx (ak pg) Tryz.f29.ntmps uC) aj Tryz.f29 (pg.own 29) (dz ax []) []=r at h1 |-;cases r with
 |ok v h'=>
  simp only[R.ok.injEq]at h1;show R.ok (gx 6 h' v) h=_;rw[h1.1];rfl
 |pan v h'=>cases h1
 |fail=>cases h1
end Go.Proofs.YteemeakjlfnapaaGreatDoor
namespace Go.Proofs.YteemeakjlfnapaaGreatDoor
open Go Go.Av Go.Av.Ap
set_option maxRecDepth 100000
def bM{α β:Type}{m:M α}{a:α}{h h':Hp}(e:m h= .ok a h')(f:α->M β):af m f h=f a h':=by simp only[af,e]
def Aq(x:eQ):(ab (be x)).length=3:=by simp
def Bu(x:Ty):(ab x.av).length=2:=by simp
def lp(l:List eQ):aN l= .sl (l.map be):=by rw[aN,cw]
def t104(t:Ty)(h:cO t=true):ak pg 104 [t.av]=M.pure t.av:=by
 have e0:ak pg 104 [t.av]=gW (ak pg) [t.av]:=eu hOther rfl _;rw[e0];simp only[gW,wE 5 t (vR 4 t (nn 4 t h)),Dx];rfl
theorem ly{α:Type}(F:α->Bool):(l:List α)->(i:Int)->(l.find? F=none/\dG F l i= -1)\/∃(k:Nat)(x:α),l.find? F=some x/\l[k]? = some x/\dG F l i=i+k
 |[],i=>.inl ⟨rfl,rfl⟩
 | x:: l,i=>by
  cases h:F x with
  |true=>exact .inr ⟨0,x,by simp[h],rfl,by simp[dG,h]⟩
  |false=>
   rcases ly F l (i+1)with⟨h1,h2⟩|⟨k,y,h1,h2,h3⟩
   ·exact .inl ⟨by simp[h,h1],by simp[dG,h,h2]⟩
   ·exact .inr ⟨k+1,y,by simp[h,h1],by simpa using h2,by simp[dG,h,h3];omega⟩
theorem CW{q n i:Nat}(h:i<n):ao T 54 (.hs q 0 n 2 true) (.int .i64 (i:Int))=some (.hp q (0+i*2)):=by
 have e:ao T 54 (.hs q 0 n 2 true) (.int .i64 (i:Int))=if 0<=(i:Int)/\(i:Int)<(n:Int)then some (.hp q (0+(i:Int).toNat*2))else none:=rfl;rw[e,DG (by omega),DT]
def xB{q:Nat}{l:List Ty}{i:Nat}{h:Hp}(hi:i<l.length)(hq:h[q]? = some (rowOf Ty.av l)):fu T 27 (.hp q (0+i*2)) h= .ok l[i].av h:=by
 have hlen:=dj (f:=Ty.av) Bu l;rw[nk (T:=T) (t:=27) rfl rfl hq (show 0+i*2+2<=_ by omega)];show R.ok (AV.agg (((rowOf Ty.av l).drop (0+i*2)).take 2)) h=_;rw[DW,da Bu l i hi,bK,de]
def tW{q:Nat}{l:List Ty}{i:Nat}{h:Hp}(hi:i<l.length)(hq:h[q]? = some (rowOf Ty.av l)):fg T 27 (.hp q (0+i*2)) l[i].av h= .ok (.tup []) h:=by
 have hlen:=dj (f:=Ty.av) Bu l;refine kp (T:=T) (t:=27) rfl hq (Ap.f7 _) (show 0+i*2+2<=_ by omega) (by decide) ?_;rw[bK];show ((rowOf Ty.av l).drop (0+i*2)).take 2=_;rw[DW,da Bu l i hi,bK]
def zQ(l:List Ty)(hb:l.length<=4611686018427387904)(hk:∀t∈l,ak pg 104 [t.av]=M.pure t.av)(q:Nat)(h:Hp)(hq:h[q]? = some (rowOf Ty.av l))(x3 x4 x5 x6 x7:AV)(nm:bT)(k e:Int)(fs:List eQ):∀(n i:Nat),l.length-i=n->i<=l.length->
  aj (L37_0 (ak pg) aj) [.hs q 0 l.length 2 true,.int .i64 l.length,.int .i64 i,x3,x4,x5,x6,x7,.str nm,.hs q 0 l.length 2 true,.int .i64 k,aN fs,.int .i64 e] h= .ok (.tup [.agg [.str nm,.hs q 0 l.length 2 true,.int .i64 k,aN fs,.int .i64 e],.bool true]) h:=by
 intro n
 induction n with
 |zero=>
  intro i hn hi;rw[FL37_0];have h1:¬((i:Int)<(l.length:Int)):=by omega
  have h2:ay 5 [] (.agg [.str nm,.hs q 0 l.length 2 true,.int .i64 k,aN fs,.int .i64 e])=M.pure (.agg [.str nm,.hs q 0 l.length 2 true,.int .i64 k,aN fs,.int .i64 e]):=aP rfl;simp[L37_0,h1,h2,M.pure]
 |succ n ih=>
  intro i hn hi;have hlt:i<l.length:=by omega
  have h1:(i:Int)<(l.length:Int):=by omega
  have ih':=ih (i+1) (by omega) (by omega);have hw:IntKind.i64.wrap ((i:Int)+1)=((i+1:Nat):Int):=aU (by omega);have hc:=hk l[i] (DV hlt);rw[<- ih'];generalize hcode:aj (L37_0 (ak pg) aj) [.hs q 0 l.length 2 true,.int .i64 l.length,.int .i64 i,x3,x4,x5,x6,x7,.str nm,.hs q 0 l.length 2 true,.int .i64 k,aN fs,.int .i64 e] h=code;rw[FL37_0]at hcode;simp -implicitDefEqProofs only[L37_0,aY,a7,bL,aO,bb,h1,EN,Ep,CW hlt]at hcode;rw[bM (xB hlt hq)]at hcode;simp -implicitDefEqProofs only[Av.jr,aX,bK,aO,LD27,D4,D3,DW,Nat.reduceAdd,DD,Ep,Eo,Eu,de,hc,fe]at hcode;rw[show (i*2)=0+i*2 by omega]at hcode;rw[bM (tW hlt hq)]at hcode;simp -implicitDefEqProofs only[ej,aO,hw]at hcode;rw[<- hcode]
def sO:Sig:=⟨[],[],ty0,0⟩
def t102(s:Sig)(name:bT):ak pg 102 [s.av,.ip [.str name]]=M.pure (.bool (s.name== name)):=by
 rw[C102];simp[S102,cl,dz]
theorem t37(f:Face)(hf:f.Lim)(hr:g7 f=true)(name:bT):ak pg 37 [f.av,.str name]=M.pure (match sf f name with
  |some s=>.tup [s.av,.bool true]
  |none=>.tup [sO.av,.bool false]):=by
 have hlen:=hf.len;have h1:=t101 (.fn (.func 102) [] [.ip [.str name]]) (fun s=>s.name== name) f.funcs (by omega) (fun g=>rfl) (fun x _=>t102 x name);unfold g7 at hr;simp only[Dy,DL]at hr;rw[C37];unfold sf;rcases ly (fun s:Sig=>s.name== name) f.funcs 0 with⟨h2,h3⟩|⟨k,s,h2,h3,h4⟩
 ·rw[h3]at h1;rw[h2];have e1:cR T false 56 []=some sO.av:=rfl;simp[S37,cl,h1,e1];exact cj fun g=>by simp[cl,dz]
 ·have hm:s∈f.funcs:=ET h3;have hrs:=hr.2.1 s hm;unfold eb at hrs;simp only[Dy,DK,DL]at hrs;obtain⟨⟨⟨⟨_,hpl⟩,_⟩,hrr⟩,hps⟩:=hrs;have hk:k<f.funcs.length:=(El.1 h3).1;rw[Int.zero_add]at h4;rw[h4]at h1;rw[h2];have hix:=t6 (l:=f.funcs) (n:=(k:Int)) (by omega) (by omega);rw[DT,F9,h3]at hix;have hix':ao T 22 (sigs f.funcs) (.int .i64 (k:Int))=some (.ip (ab s.av)):=hix;have hneg:¬((k:Int)<0):=by omega
  have hcl:=fun t (ht:t∈s.params)=>t104 t (hps t ht);have hcr:=t104 s.result hrr;have e0:ak pg 103 [ky s.params]=cv T 54 (ak pg) [ky s.params]:=eu hOther rfl _;have e1:=kX (T:=T) (t:=54) (f:=Ty.av) (sz:=2) rfl rfl rfl rfl rfl (by decide) (by decide) (fun x=>Ap.f7 x) (ak pg) s.params (show s.params.length*32<=140737488355328 by omega) [];rw[show AV.sl (s.params.map Ty.av)=ky s.params from rfl,<- e0]at e1;funext hp;show aH _ hp=R.ok (.tup [s.av,.bool true]) hp;by_cases hps0:s.params=[]
  ·rw[DG hps0]at e1;have e2:ay 5 [] (.agg [.str s.name,.sl [],.int .i64 s.result.kind,aN s.result.fields,.int .i64 s.effects])=M.pure (.agg [.str s.name,.sl [],.int .i64 s.result.kind,aN s.result.fields,.int .i64 s.effects]):=aP rfl;have key:S37 (ak pg) aj (cl ax f.av) (cl ax (.str name)) []= .ok (.tup [.agg [.str s.name,.sl [],.int .i64 s.result.kind,aN s.result.fields,.int .i64 s.effects],.bool true]) []:=by
    simp only[S37,kz,qY,fk,FA24_1,aO,EJ,Ev,LD22,il,h1,aX,bL,hneg,Fw,bb,EH,Ee,hix',LD56,dx,D4,D3,DW,Nat.reduceAdd,DD,Ep,Eo,Eu,fb,iH,aY,a7];rw[bM e1];simp only[de,hcr,fe,aX,bj,aL,Dx,aO,jX,bK,xY,aY,a7];rw[FL37_0];simp[L37_0,e2,M.pure]
   unfold aH;rw[key];have:(AV.agg [.str s.name,.sl [],.int .i64 s.result.kind,aN s.result.fields,.int .i64 s.effects])=s.av:=by rw[<- fb,hps0];rfl
   rw[this];have hc:Ap.Clean (AV.tup [s.av,.bool true]):=fun g=>by simp[cl,dz]
   exact Dz (fun x=>R.ok x hp) (hc.frz 6 [])
  ·rw[if_neg hps0]at e1;have hq:([]++[rowOf Ty.av s.params]:Hp)[0]? = some (rowOf Ty.av s.params):=rfl;have key:S37 (ak pg) aj (cl ax f.av) (cl ax (.str name)) []= .ok (.tup [.agg [.str s.name,.hs 0 0 s.params.length 2 true,.int .i64 s.result.kind,aN s.result.fields,.int .i64 s.effects],.bool true]) ([]++[rowOf Ty.av s.params]):=by
    simp only[S37,kz,qY,fk,FA24_1,aO,EJ,Ev,LD22,il,h1,aX,bL,hneg,Fw,bb,EH,Ee,hix',LD56,dx,D4,D3,DW,Nat.reduceAdd,DD,Ep,Eo,Eu,fb,iH,aY,a7];rw[bM e1];simp only[de,hcr,fe,aX,bj,aL,Dx,aO,jX,bK,yK,aY,a7,D3];exact zQ s.params (by omega) hcl 0 _ hq _ _ _ _ _ _ _ _ _ s.params.length 0 rfl (by omega)
   unfold aH;rw[key];have hfr:=jE (f:=Ty.av) Bu (fun x=>by rw[bK,de]) (fun x g=>kV g x) (by decide) hq 5;have:gx 6 ([]++[rowOf Ty.av s.params]) (.tup [.agg [.str s.name,.hs 0 0 s.params.length 2 true,.int .i64 s.result.kind,aN s.result.fields,.int .i64 s.effects],.bool true])= .tup [s.av,.bool true]:=by
    rw[<- fb];show AV.tup [.agg [.str s.name,gx 6 ([]++[rowOf Ty.av s.params]) (.hs 0 0 s.params.length 2 true),.int .i64 s.result.kind,cl _ (aN s.result.fields),.int .i64 s.effects],.bool true]=_;rw[hfr,kA];rfl
   show R.ok (gx 6 _ _) hp=_;rw[this]
def pR{m:M AV}{v r:AV}{h':Hp}(e:m []= .ok v h')(f:gx 6 h' v=r):aH m=M.pure r:=by
 funext hp;unfold aH;rw[e];show R.ok (gx 6 h' v) hp=R.ok r hp;rw[f]
def cnt(t:Ty):ay 2 [] (.agg [.int .i64 t.kind,aN t.fields])=M.pure (.agg [.int .i64 t.kind,aN t.fields]):=aP rfl
end Go.Proofs.YteemeakjlfnapaaGreatDoor
