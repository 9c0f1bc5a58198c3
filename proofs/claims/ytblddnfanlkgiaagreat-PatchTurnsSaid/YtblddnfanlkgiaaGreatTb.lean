/- What the functions of the seat compute, part 2: the texts of the claim, one behind the other. Conditions: bounds, as each theorem names them. -/
import Derived.Test.YtblddnfanlkgiaaGreatTa
import Derived.Test.YtblddnfanlkgiaaGreatRows
import Derived.Shelf.Vars
import Derived.ProofKit
import Derived.Deep.DeepHandedRow
import Derived.Deep.DeepWitnessRowRef
import Derived.Deep.DeepLaidRun
set_option linter.defProp false
set_option linter.unusedSimpArgs false
set_option linter.unusedVariables false
namespace Go.Proofs.YtblddnfanlkgiaaGreat
open Go Go.Av Go.Av.Ap
set_option maxRecDepth 100000
@[simp] theorem FA27_0(cs:List AV):aa T 27 (.ip cs) 0=some (.ip (cs.drop 0)):=rfl
@[simp] theorem FH27_0(l k:Nat):aa T 27 (.hp l k) 0=some (.hp l (k+0)):=rfl
@[simp] theorem FA27_1(cs:List AV):aa T 27 (.ip cs) 1=some (.ip (cs.drop 1)):=rfl
@[simp] theorem FH27_1(l k:Nat):aa T 27 (.hp l k) 1=some (.hp l (k+1)):=rfl
@[simp] theorem FA27_2(cs:List AV):aa T 27 (.ip cs) 2=some (.ip (cs.drop 2)):=rfl
@[simp] theorem FH27_2(l k:Nat):aa T 27 (.hp l k) 2=some (.hp l (k+2)):=rfl
@[simp] theorem FA29_0(cs:List AV):aa T 29 (.ip cs) 0=some (.ip (cs.drop 0)):=rfl
@[simp] theorem FH29_0(l k:Nat):aa T 29 (.hp l k) 0=some (.hp l (k+0)):=rfl
@[simp] theorem FA29_1(cs:List AV):aa T 29 (.ip cs) 1=some (.ip (cs.drop 1)):=rfl
@[simp] theorem FH29_1(l k:Nat):aa T 29 (.hp l k) 1=some (.hp l (k+1)):=rfl
@[simp] theorem FA29_2(cs:List AV):aa T 29 (.ip cs) 2=some (.ip (cs.drop 2)):=rfl
@[simp] theorem FH29_2(l k:Nat):aa T 29 (.hp l k) 2=some (.hp l (k+2)):=rfl
@[simp] theorem FA29_3(cs:List AV):aa T 29 (.ip cs) 3=some (.ip (cs.drop 3)):=rfl
@[simp] theorem FH29_3(l k:Nat):aa T 29 (.hp l k) 3=some (.hp l (k+3)):=rfl
@[simp] theorem FA29_4(cs:List AV):aa T 29 (.ip cs) 4=some (.ip (cs.drop 4)):=rfl
@[simp] theorem FH29_4(l k:Nat):aa T 29 (.hp l k) 4=some (.hp l (k+4)):=rfl
@[simp] theorem FA29_5(cs:List AV):aa T 29 (.ip cs) 5=some (.ip (cs.drop 5)):=rfl
@[simp] theorem FH29_5(l k:Nat):aa T 29 (.hp l k) 5=some (.hp l (k+5)):=rfl
@[simp] theorem FA29_6(cs:List AV):aa T 29 (.ip cs) 6=some (.ip (cs.drop 6)):=rfl
@[simp] theorem FH29_6(l k:Nat):aa T 29 (.hp l k) 6=some (.hp l (k+6)):=rfl
@[simp] theorem FA44_0(cs:List AV):aa T 44 (.ip cs) 0=some (.ip (cs.drop 0)):=rfl
@[simp] theorem FH44_0(l k:Nat):aa T 44 (.hp l k) 0=some (.hp l (k+0)):=rfl
@[simp] theorem FA44_1(cs:List AV):aa T 44 (.ip cs) 1=some (.ip (cs.drop 1)):=rfl
@[simp] theorem FH44_1(l k:Nat):aa T 44 (.hp l k) 1=some (.hp l (k+1)):=rfl
@[simp] theorem FA46_0(cs:List AV):aa T 46 (.ip cs) 0=some (.ip (cs.drop 0)):=rfl
@[simp] theorem FH46_0(l k:Nat):aa T 46 (.hp l k) 0=some (.hp l (k+0)):=rfl
@[simp] theorem FA46_1(cs:List AV):aa T 46 (.ip cs) 1=some (.ip (cs.drop 1)):=rfl
@[simp] theorem FH46_1(l k:Nat):aa T 46 (.hp l k) 1=some (.hp l (k+1)):=rfl
@[simp] theorem FA46_2(cs:List AV):aa T 46 (.ip cs) 2=some (.ip (cs.drop 2)):=rfl
@[simp] theorem FH46_2(l k:Nat):aa T 46 (.hp l k) 2=some (.hp l (k+2)):=rfl
@[simp] theorem FA46_3(cs:List AV):aa T 46 (.ip cs) 3=some (.ip (cs.drop 3)):=rfl
@[simp] theorem FH46_3(l k:Nat):aa T 46 (.hp l k) 3=some (.hp l (k+3)):=rfl
@[simp] theorem FA46_4(cs:List AV):aa T 46 (.ip cs) 4=some (.ip (cs.drop 4)):=rfl
@[simp] theorem FH46_4(l k:Nat):aa T 46 (.hp l k) 4=some (.hp l (k+4)):=rfl
@[simp] theorem FA46_5(cs:List AV):aa T 46 (.ip cs) 5=some (.ip (cs.drop 5)):=rfl
@[simp] theorem FH46_5(l k:Nat):aa T 46 (.hp l k) 5=some (.hp l (k+5)):=rfl
@[simp] theorem FA48_0(cs:List AV):aa T 48 (.ip cs) 0=some (.ip (cs.drop 0)):=rfl
@[simp] theorem FH48_0(l k:Nat):aa T 48 (.hp l k) 0=some (.hp l (k+0)):=rfl
@[simp] theorem FA48_1(cs:List AV):aa T 48 (.ip cs) 1=some (.ip (cs.drop 1)):=rfl
@[simp] theorem FH48_1(l k:Nat):aa T 48 (.hp l k) 1=some (.hp l (k+1)):=rfl
@[simp] theorem FA48_2(cs:List AV):aa T 48 (.ip cs) 2=some (.ip (cs.drop 2)):=rfl
@[simp] theorem FH48_2(l k:Nat):aa T 48 (.hp l k) 2=some (.hp l (k+2)):=rfl
@[simp] theorem FA48_3(cs:List AV):aa T 48 (.ip cs) 3=some (.ip (cs.drop 3)):=rfl
@[simp] theorem FH48_3(l k:Nat):aa T 48 (.hp l k) 3=some (.hp l (k+3)):=rfl
@[simp] theorem FA48_4(cs:List AV):aa T 48 (.ip cs) 4=some (.ip (cs.drop 5)):=rfl
@[simp] theorem FH48_4(l k:Nat):aa T 48 (.hp l k) 4=some (.hp l (k+5)):=rfl
@[simp] theorem FA48_5(cs:List AV):aa T 48 (.ip cs) 5=some (.ip (cs.drop 6)):=rfl
@[simp] theorem FH48_5(l k:Nat):aa T 48 (.hp l k) 5=some (.hp l (k+6)):=rfl
@[simp] theorem FA51_0(cs:List AV):aa T 51 (.ip cs) 0=some (.ip (cs.drop 0)):=rfl
@[simp] theorem FH51_0(l k:Nat):aa T 51 (.hp l k) 0=some (.hp l (k+0)):=rfl
@[simp] theorem FA51_1(cs:List AV):aa T 51 (.ip cs) 1=some (.ip (cs.drop 1)):=rfl
@[simp] theorem FH51_1(l k:Nat):aa T 51 (.hp l k) 1=some (.hp l (k+1)):=rfl
@[simp] theorem FA56_0(cs:List AV):aa T 56 (.ip cs) 0=some (.ip (cs.drop 0)):=rfl
@[simp] theorem FH56_0(l k:Nat):aa T 56 (.hp l k) 0=some (.hp l (k+0)):=rfl
@[simp] theorem FA56_1(cs:List AV):aa T 56 (.ip cs) 1=some (.ip (cs.drop 1)):=rfl
@[simp] theorem FH56_1(l k:Nat):aa T 56 (.hp l k) 1=some (.hp l (k+1)):=rfl
@[simp] theorem FA65_0(cs:List AV):aa T 65 (.ip cs) 0=some (.ip (cs.drop 0)):=rfl
@[simp] theorem FH65_0(l k:Nat):aa T 65 (.hp l k) 0=some (.hp l (k+0)):=rfl
@[simp] theorem FA65_1(cs:List AV):aa T 65 (.ip cs) 1=some (.ip (cs.drop 9)):=rfl
@[simp] theorem FH65_1(l k:Nat):aa T 65 (.hp l k) 1=some (.hp l (k+9)):=rfl
@[simp] theorem FA65_2(cs:List AV):aa T 65 (.ip cs) 2=some (.ip (cs.drop 10)):=rfl
@[simp] theorem FH65_2(l k:Nat):aa T 65 (.hp l k) 2=some (.hp l (k+10)):=rfl
@[simp] theorem FA90_0(cs:List AV):aa T 90 (.ip cs) 0=some (.ip (cs.drop 0)):=rfl
@[simp] theorem FH90_0(l k:Nat):aa T 90 (.hp l k) 0=some (.hp l (k+0)):=rfl
@[simp] theorem FA90_1(cs:List AV):aa T 90 (.ip cs) 1=some (.ip (cs.drop 1)):=rfl
@[simp] theorem FH90_1(l k:Nat):aa T 90 (.hp l k) 1=some (.hp l (k+1)):=rfl
@[simp] theorem FA90_2(cs:List AV):aa T 90 (.ip cs) 2=some (.ip (cs.drop 2)):=rfl
@[simp] theorem FH90_2(l k:Nat):aa T 90 (.hp l k) 2=some (.hp l (k+2)):=rfl
@[simp] theorem FA90_3(cs:List AV):aa T 90 (.ip cs) 3=some (.ip (cs.drop 4)):=rfl
@[simp] theorem FH90_3(l k:Nat):aa T 90 (.hp l k) 3=some (.hp l (k+4)):=rfl
@[simp] theorem FA96_0(cs:List AV):aa T 96 (.ip cs) 0=some (.ip (cs.drop 0)):=rfl
@[simp] theorem FH96_0(l k:Nat):aa T 96 (.hp l k) 0=some (.hp l (k+0)):=rfl
@[simp] theorem FA96_1(cs:List AV):aa T 96 (.ip cs) 1=some (.ip (cs.drop 1)):=rfl
@[simp] theorem FH96_1(l k:Nat):aa T 96 (.hp l k) 1=some (.hp l (k+1)):=rfl
@[simp] theorem FA98_0(cs:List AV):aa T 98 (.ip cs) 0=some (.ip (cs.drop 0)):=rfl
@[simp] theorem FH98_0(l k:Nat):aa T 98 (.hp l k) 0=some (.hp l (k+0)):=rfl
@[simp] theorem FA98_1(cs:List AV):aa T 98 (.ip cs) 1=some (.ip (cs.drop 3)):=rfl
@[simp] theorem FH98_1(l k:Nat):aa T 98 (.hp l k) 1=some (.hp l (k+3)):=rfl
@[simp] theorem FA102_0(cs:List AV):aa T 102 (.ip cs) 0=some (.ip (cs.drop 0)):=rfl
@[simp] theorem FH102_0(l k:Nat):aa T 102 (.hp l k) 0=some (.hp l (k+0)):=rfl
@[simp] theorem FA102_1(cs:List AV):aa T 102 (.ip cs) 1=some (.ip (cs.drop 1)):=rfl
@[simp] theorem FH102_1(l k:Nat):aa T 102 (.hp l k) 1=some (.hp l (k+1)):=rfl
@[simp] theorem FA105_0(cs:List AV):aa T 105 (.ip cs) 0=some (.ip (cs.drop 0)):=rfl
@[simp] theorem FH105_0(l k:Nat):aa T 105 (.hp l k) 0=some (.hp l (k+0)):=rfl
@[simp] theorem FA105_1(cs:List AV):aa T 105 (.ip cs) 1=some (.ip (cs.drop 1)):=rfl
@[simp] theorem FH105_1(l k:Nat):aa T 105 (.hp l k) 1=some (.hp l (k+1)):=rfl
@[simp] theorem FA109_0(cs:List AV):aa T 109 (.ip cs) 0=some (.ip (cs.drop 0)):=rfl
@[simp] theorem FH109_0(l k:Nat):aa T 109 (.hp l k) 0=some (.hp l (k+0)):=rfl
@[simp] theorem FA109_1(cs:List AV):aa T 109 (.ip cs) 1=some (.ip (cs.drop 1)):=rfl
@[simp] theorem FH109_1(l k:Nat):aa T 109 (.hp l k) 1=some (.hp l (k+1)):=rfl
@[simp] theorem LD3(x:AV)(l:List AV):ah T 3 (.ip (x:: l))=some x:=rfl
@[simp] theorem LD4(x:AV)(l:List AV):ah T 4 (.ip (x:: l))=some x:=rfl
@[simp] theorem LD9(x:AV)(l:List AV):ah T 9 (.ip (x:: l))=some x:=rfl
@[simp] theorem LD22(x:AV)(l:List AV):ah T 22 (.ip (x:: l))=some x:=rfl
@[simp] theorem LD23(x:AV)(l:List AV):ah T 23 (.ip (x:: l))=some x:=rfl
@[simp] theorem LD24(x:AV)(l:List AV):ah T 24 (.ip (x:: l))=some x:=rfl
@[simp] theorem LD25(x:AV)(l:List AV):ah T 25 (.ip (x:: l))=some x:=rfl
@[simp] theorem LD27(cs:List AV):ah T 27 (.ip cs)=if 3<=cs.length then some (.agg (cs.take 3))else none:=rfl
@[simp] theorem LD29(cs:List AV):ah T 29 (.ip cs)=if 9<=cs.length then some (.agg (cs.take 9))else none:=rfl
@[simp] theorem LD44(cs:List AV):ah T 44 (.ip cs)=if 2<=cs.length then some (.agg (cs.take 2))else none:=rfl
@[simp] theorem LD46(cs:List AV):ah T 46 (.ip cs)=if 6<=cs.length then some (.agg (cs.take 6))else none:=rfl
@[simp] theorem LD48(cs:List AV):ah T 48 (.ip cs)=if 12<=cs.length then some (.agg (cs.take 12))else none:=rfl
@[simp] theorem LD51(cs:List AV):ah T 51 (.ip cs)=if 3<=cs.length then some (.agg (cs.take 3))else none:=rfl
@[simp] theorem LD54(x:AV)(l:List AV):ah T 54 (.ip (x:: l))=some x:=rfl
@[simp] theorem LD56(cs:List AV):ah T 56 (.ip cs)=if 2<=cs.length then some (.agg (cs.take 2))else none:=rfl
@[simp] theorem LD63(x:AV)(l:List AV):ah T 63 (.ip (x:: l))=some x:=rfl
@[simp] theorem LD79(x:AV)(l:List AV):ah T 79 (.ip (x:: l))=some x:=rfl
@[simp] theorem LD88(x:AV)(l:List AV):ah T 88 (.ip (x:: l))=some x:=rfl
@[simp] theorem LD90(cs:List AV):ah T 90 (.ip cs)=if 5<=cs.length then some (.agg (cs.take 5))else none:=rfl
@[simp] theorem LD93(x:AV)(l:List AV):ah T 93 (.ip (x:: l))=some x:=rfl
@[simp] theorem LD94(x:AV)(l:List AV):ah T 94 (.ip (x:: l))=some x:=rfl
@[simp] theorem LD96(cs:List AV):ah T 96 (.ip cs)=if 2<=cs.length then some (.agg (cs.take 2))else none:=rfl
@[simp] theorem LD98(cs:List AV):ah T 98 (.ip cs)=if 9<=cs.length then some (.agg (cs.take 9))else none:=rfl
@[simp] theorem LD99(x:AV)(l:List AV):ah T 99 (.ip (x:: l))=some x:=rfl
@[simp] theorem LD100(x:AV)(l:List AV):ah T 100 (.ip (x:: l))=some x:=rfl
@[simp] theorem LD102(cs:List AV):ah T 102 (.ip cs)=if 2<=cs.length then some (.agg (cs.take 2))else none:=rfl
@[simp] theorem LD103(x:AV)(l:List AV):ah T 103 (.ip (x:: l))=some x:=rfl
@[simp] theorem LD105(cs:List AV):ah T 105 (.ip cs)=if 2<=cs.length then some (.agg (cs.take 2))else none:=rfl
@[simp] theorem LD106(x:AV)(l:List AV):ah T 106 (.ip (x:: l))=some x:=rfl
@[simp] theorem LD107(x:AV)(l:List AV):ah T 107 (.ip (x:: l))=some x:=rfl
@[simp] theorem LD109(cs:List AV):ah T 109 (.ip cs)=if 2<=cs.length then some (.agg (cs.take 2))else none:=rfl
@[simp] theorem LD112(x:AV)(l:List AV):ah T 112 (.ip (x:: l))=some x:=rfl
@[simp] theorem LD118(x:AV)(l:List AV):ah T 118 (.ip (x:: l))=some x:=rfl
@[simp] theorem H8(s:aT):aP T 9 (.str s)=some (.int .i64 s.length):=rfl
@[simp] theorem Gm(es:List AV):aP T 22 (.sl es)=some (.int .i64 es.length):=rfl
@[simp] theorem Ik:aP T 22 .hn=some (.int .i64 0):=rfl
@[simp] theorem Ib(l k n s:Nat)(a:Bool):aP T 22 (.hs l k n s a)=some (.int .i64 n):=rfl
@[simp] theorem jy(l:List aT):aP T 22 (strs l)=some (.int .i64 l.length):=(Gm _).trans (by simp)
@[simp] theorem Gn(es:List AV):aP T 23 (.sl es)=some (.int .i64 es.length):=rfl
@[simp] theorem Il:aP T 23 .hn=some (.int .i64 0):=rfl
@[simp] theorem Ic(l k n s:Nat)(a:Bool):aP T 23 (.hs l k n s a)=some (.int .i64 n):=rfl
@[simp] theorem og(l:List bI):aP T 23 (aN l)=some (.int .i64 l.length):=(Gn _).trans (by simp[eK])
@[simp] theorem Gp(es:List AV):aP T 24 (.sl es)=some (.int .i64 es.length):=rfl
@[simp] theorem Im:aP T 24 .hn=some (.int .i64 0):=rfl
@[simp] theorem Ie(l k n s:Nat)(a:Bool):aP T 24 (.hs l k n s a)=some (.int .i64 n):=rfl
@[simp] theorem yF(l:List Exp):aP T 24 (bp l)=some (.int .i64 l.length):=(Gp _).trans (by simp[fE])
@[simp] theorem Gq(es:List AV):aP T 25 (.sl es)=some (.int .i64 es.length):=rfl
@[simp] theorem Io:aP T 25 .hn=some (.int .i64 0):=rfl
@[simp] theorem Ig(l k n s:Nat)(a:Bool):aP T 25 (.hs l k n s a)=some (.int .i64 n):=rfl
@[simp] theorem yG(l:List Fun):aP T 25 (dK l)=some (.int .i64 l.length):=(Gq _).trans (by simp)
@[simp] theorem Gr(es:List AV):aP T 30 (.sl es)=some (.int .i64 es.length):=rfl
@[simp] theorem Ip:aP T 30 .hn=some (.int .i64 0):=rfl
@[simp] theorem Ih(l k n s:Nat)(a:Bool):aP T 30 (.hs l k n s a)=some (.int .i64 n):=rfl
@[simp] theorem mh(l:List Face):aP T 30 (faces l)=some (.int .i64 l.length):=(Gr _).trans (by simp)
@[simp] theorem Gs(es:List AV):aP T 54 (.sl es)=some (.int .i64 es.length):=rfl
@[simp] theorem Iq:aP T 54 .hn=some (.int .i64 0):=rfl
@[simp] theorem Ii(l k n s:Nat)(a:Bool):aP T 54 (.hs l k n s a)=some (.int .i64 n):=rfl
@[simp] theorem H9(l:List Sig):aP T 54 (sigs l)=some (.int .i64 l.length):=(Gs _).trans (by simp)
@[simp] theorem Gt(es:List AV):aP T 88 (.sl es)=some (.int .i64 es.length):=rfl
@[simp] theorem Ir:aP T 88 .hn=some (.int .i64 0):=rfl
@[simp] theorem Ij(l k n s:Nat)(a:Bool):aP T 88 (.hs l k n s a)=some (.int .i64 n):=rfl
@[simp] theorem Ia(l:List Ty):aP T 88 (gy l)=some (.int .i64 l.length):=(Gt _).trans (by simp)
@[simp] theorem H1(es:List AV):aP T 112 (.sl es)=some (.int .i64 es.length):=rfl
@[simp] theorem HG:aP T 112 .hn=some (.int .i64 0):=rfl
@[simp] theorem HA(l k n s:Nat)(a:Bool):aP T 112 (.hs l k n s a)=some (.int .i64 n):=rfl
@[simp] theorem H3(es:List AV):aP T 118 (.sl es)=some (.int .i64 es.length):=rfl
@[simp] theorem HH:aP T 118 .hn=some (.int .i64 0):=rfl
@[simp] theorem HB(l k n s:Nat)(a:Bool):aP T 118 (.hs l k n s a)=some (.int .i64 n):=rfl
@[simp] theorem H4(es:List AV):aP T 165 (.sl es)=some (.int .i64 es.length):=rfl
@[simp] theorem HI:aP T 165 .hn=some (.int .i64 0):=rfl
@[simp] theorem HC(l k n s:Nat)(a:Bool):aP T 165 (.hs l k n s a)=some (.int .i64 n):=rfl
@[simp] theorem H5(es:List AV):aP T 168 (.sl es)=some (.int .i64 es.length):=rfl
@[simp] theorem HJ:aP T 168 .hn=some (.int .i64 0):=rfl
@[simp] theorem HD(l k n s:Nat)(a:Bool):aP T 168 (.hs l k n s a)=some (.int .i64 n):=rfl
@[simp] theorem H6(es:List AV):aP T 170 (.sl es)=some (.int .i64 es.length):=rfl
@[simp] theorem HK:aP T 170 .hn=some (.int .i64 0):=rfl
@[simp] theorem HE(l k n s:Nat)(a:Bool):aP T 170 (.hs l k n s a)=some (.int .i64 n):=rfl
@[simp] theorem H7(es:List AV):aP T 174 (.sl es)=some (.int .i64 es.length):=rfl
@[simp] theorem HL:aP T 174 .hn=some (.int .i64 0):=rfl
@[simp] theorem HF(l k n s:Nat)(a:Bool):aP T 174 (.hs l k n s a)=some (.int .i64 n):=rfl
def nO{l:List aT}{n:Int}(h0:0<=n)(h:n<(l.length:Int)):ak T 22 (strs l) (.int .i64 n)=some (.ip (ab (AV.str l[n.toNat]!))):=bU (T:=T) (t:=22) (e:=9) rfl rfl rfl (fun _=>by first|rfl|(simp;done)|(simp;rfl)) h0 h
def iM{l:List bI}{n:Int}(h0:0<=n)(h:n<(l.length:Int)):ak T 23 (aN l) (.int .i64 n)=some (.ip (ab (bi l[n.toNat]!))):=by rw[aN,eK];exact bU (T:=T) (t:=23) (e:=51) rfl rfl rfl (fun _=>by first|rfl|(simp;done)|(simp;rfl)) h0 h
def jx{l:List Exp}{n:Int}(h0:0<=n)(h:n<(l.length:Int)):ak T 24 (bp l) (.int .i64 n)=some (.ip (ab (Exp.av l[n.toNat]!))):=by rw[bp,fE];exact bU (T:=T) (t:=24) (e:=46) rfl rfl rfl (fun _=>by first|rfl|(simp;done)|(simp;rfl)) h0 h
def p7{l:List Fun}{n:Int}(h0:0<=n)(h:n<(l.length:Int)):ak T 25 (dK l) (.int .i64 n)=some (.ip (ab (Fun.av l[n.toNat]!))):=bU (T:=T) (t:=25) (e:=48) rfl rfl rfl (fun _=>by first|rfl|(simp;done)|(simp;rfl)) h0 h
def Gk{l:List Face}{n:Int}(h0:0<=n)(h:n<(l.length:Int)):ak T 30 (faces l) (.int .i64 n)=some (.ip (ab (Face.av l[n.toNat]!))):=bU (T:=T) (t:=30) (e:=56) rfl rfl rfl (fun _=>by first|rfl|(simp;done)|(simp;rfl)) h0 h
def AY{l:List Sig}{n:Int}(h0:0<=n)(h:n<(l.length:Int)):ak T 54 (sigs l) (.int .i64 n)=some (.ip (ab (Sig.av l[n.toNat]!))):=bU (T:=T) (t:=54) (e:=90) rfl rfl rfl (fun _=>by first|rfl|(simp;done)|(simp;rfl)) h0 h
def rn{l:List Ty}{n:Int}(h0:0<=n)(h:n<(l.length:Int)):ak T 88 (gy l) (.int .i64 n)=some (.ip (ab (Ty.av l[n.toNat]!))):=bU (T:=T) (t:=88) (e:=44) rfl rfl rfl (fun _=>by first|rfl|(simp;done)|(simp;rfl)) h0 h
def oc{a b:List aT}(h:(a.length+b.length)*16<=140737488355328):ca T 22 (strs a) (strs b)=some (strs (a++b)):=by
 have:=fZ (T:=T) (t:=22) (e:=9) rfl rfl rfl (f:=AV.str) (fun _=>by first|rfl|(simp;done)|(simp;rfl)) (a:=a) (b:=b) h (by decide)
 simpa [strs]using this
def yD{a b:List bI}(h:(a.length+b.length)*48<=140737488355328):ca T 23 (aN a) (aN b)=some (aN (a++b)):=by
 have:=fZ (T:=T) (t:=23) (e:=51) rfl rfl rfl (f:=bi) (fun _=>by first|rfl|(simp;done)|(simp;rfl)) (a:=a) (b:=b) h (by decide)
 simpa [aN,eK]using this
def Gg{a b:List Exp}(h:(a.length+b.length)*96<=140737488355328):ca T 24 (bp a) (bp b)=some (bp (a++b)):=by
 have:=fZ (T:=T) (t:=24) (e:=46) rfl rfl rfl (f:=Exp.av) (fun _=>by first|rfl|(simp;done)|(simp;rfl)) (a:=a) (b:=b) h (by decide)
 simpa [bp,fE]using this
def Gh{a b:List Ty}(h:(a.length+b.length)*32<=140737488355328):ca T 88 (gy a) (gy b)=some (gy (a++b)):=by
 have:=fZ (T:=T) (t:=88) (e:=44) rfl rfl rfl (f:=Ty.av) (fun _=>by first|rfl|(simp;done)|(simp;rfl)) (a:=a) (b:=b) h (by decide)
 simpa [gy]using this
def Iy(e:AV)(es:List AV):cX (Br Tryz.f67.ntmps ww) (c9 0) Tryz.f67 (some 3) [.sl (e:: es)]=ae (ai (ca T 23 (.sl []) (.sl (e:: es)))) fun v=>ae (ai (some v)) M.pure:=by kernel_rfl
def Iz:cX (Br Tryz.f67.ntmps ww) (c9 0) Tryz.f67 (some 3) [.hn]=ae (ai (some (.sl []))) M.pure:=by kernel_rfl
def IA(l off:Nat):cX (Br Tryz.f67.ntmps ww) (c9 0) Tryz.f67 (some 3) [.hs l off 0 1 false]=ae (ai (ca T 23 (.sl []) (.hs l off 0 1 false))) fun v=>ae (ai (some v)) M.pure:=by kernel_rfl
def IB(l off:Nat):ca T 23 (.sl []) (.hs l off 0 1 false)=some (.sl []):=by rfl
def Hd(call:FuncId->List AV->M AV)(args:List AV)(h:Hp)(S:aL)(β:List bS)(w:World)(vs:List Value)(hr:iW T 23 call args h≠.fail)(hg:yA β h w)(hw:Wf S w)(hh:dV S β w h)(hv:bw S β args vs):
  Calls Tryz.prog 67 vs.toArray w (gX (some 3) S β h w (iW T 23 call args h)):=by
 have key:∀es,args=[.sl es]->Calls Tryz.prog 67 vs.toArray w (gX (some 3) S β h w (iW T 23 call args h)):=by
  rintro es rfl;exact (sZ (cx:=Br Tryz.f67.ntmps ww) (own:=some 3) (E:=fun es h=>iW T 23 call [.sl es] h) tok (xG _ _) (Bt _ _) Tryz.func67 rfl (fun h=>by rfl) (fun e es h=>by rw[Iy];exact congrFun (Ex _) h) (fun h=>by rw[Iz];rfl) (fun l off h=>by rw[IA,IB];rfl) hr hg hw hh hv).1
 unfold iW at hr;split at hr
 ·exact key _ rfl
 ·exact absurd rfl hr
end Go.Proofs.YtblddnfanlkgiaaGreat
namespace Go.Proofs.YtblddnfanlkgiaaGreat
open Go Go.Av Go.Av.Ap Go.RowKit
set_option maxRecDepth 100000
def Is{α:Type}{f k:Nat}{x:α}{o:Option α}{y:α}(h:(bif Nat.beq f k then some x else o)=some y):(f=k/\x=y)\/o=some y:=by
 cases hb:Nat.beq f k with
 |true=>rw[hb]at h;exact .inl ⟨J2 hb,by simpa using h⟩
 |false=>rw[hb]at h;exact .inr h
def zj{α:Type}{f k:Nat}{x y:α}{o:Option α}{P:Prop}(h1:f=k->x=y->P)(h2:o=some y->P)(h:(bif Nat.beq f k then some x else o)=some y):P:=(Is h).elim (fun h=>h1 h.1 h.2) h2
def IF:GoodPg Tryz.prog pg where
 tok:=tok
 funcs:=zO
 other:=by
  intro f E hE call hC args h S β w vs hr hg hw hh hv;have h0:other f=some E:=hE;unfold other at h0;revert h0
  repeat' refine zj ?_ ?_
  all_goals first
   |(intro h0;cases h0;done)
   |(rintro rfl rfl;exact absurd rfl hr)
   |(rintro rfl rfl;exact⟨Hd call args h S β w vs hr hg hw hh hv,by kernel_rfl⟩)
   |(rintro rfl rfl;exact⟨Hc call args h S β w vs hr hg hw hh hv,by kernel_rfl⟩)
   |(rintro rfl rfl;exact⟨He call args h S β w vs hr hg hw hh hv,by kernel_rfl⟩)
   |(rintro rfl rfl;exact⟨ki BA call args h S β w vs hr hg hw hh hv,by kernel_rfl⟩)
   |(rintro rfl rfl;exact⟨ki BC call args h S β w vs hr hg hw hh hv,by kernel_rfl⟩)
   |(rintro rfl rfl;exact⟨ki Bw call args h S β w vs hr hg hw hh hv,by kernel_rfl⟩)
   |(rintro rfl rfl;exact⟨ki Bz call args h S β w vs hr hg hw hh hv,by kernel_rfl⟩)
 nw:=fun f hf=>by cases hf
end Go.Proofs.YtblddnfanlkgiaaGreat
namespace Go.Proofs.YtblddnfanlkgiaaGreat
open Go Go.Av Go.ChangeShapes Go.WideShapes Go.ChangeAt Go.RowKit
set_option maxRecDepth 1000000
def IK:ownKnob Tryz.prog.godebug=none:=by kernel_rfl
def EQ{W:World}(hS:W.ShapedOpen Tryz.prog):GOKw W:=by
 refine⟨?_⟩;exact cell_of_shapedOpen_int (zero:=#[.int .i64 0]) (t:=3) hS (Mk (by kernel_rfl)) (by kernel_rfl) rfl (by kernel_rfl) (by kernel_rfl) Tryz.underlying3
noncomputable def qL(os:Os):World:=World.holding Tryz.prog os ⟨#[],#[],[]⟩
end Go.Proofs.YtblddnfanlkgiaaGreat
namespace Go.Proofs.YtblddnfanlkgiaaGreat
open Go Go.Av Go.Av.Ap Go.RowKit
set_option maxRecDepth 1000000
section
variable {H:Type} {enc:TypeId×Value->H} {W:World}
theorem gT:reachBytes=140737488351232:=rfl
theorem Ty.lim_mk{k:Int}{fs:List bI}(h2:fs.length<=140737488355328)(h3:∀v∈fs,v.2.Lim):(Ty.mk k fs).Lim:=fun j=>match j with
 |0=>trivial
 |j+1=>⟨h2,fun x hx=>h3 x hx j⟩
theorem pB{N:Nat}(h:Rd enc Tryz.prog W N 44 (fun v:Ty=>v.cells) Ty.Lim):Rd enc Tryz.prog W (N+1) 23 (fun l:List bI=>[aN l]) (fun l=>l.length<=140737488355328/\∀v∈l,v.2.Lim):=
 (gS ((eW Tryz.underlying51 (by kernel_rfl) (bb (j0 Tryz.underlying9) rfl (by kernel_rfl:_=1) (bb h rfl (by kernel_rfl:_=2) gh))).map (fun x=>((x.1,x.2.1):bI)) (cells':=fun f=>ab (bi f)) (Ok':=fun f=>f.2.Lim) (fun x=>by simp[Ty.cells_eq]) (fun x h=>h.2.1))
  Tryz.underlying23 (by kernel_rfl:_=3) (by decide) (by kernel_rfl:_=48) (ev:=bi) (gE fun v=>by rw[eB];rfl)).map id (fun l=>by simp[aN,eK]) (fun l h=>⟨by have:=h.1;rw[gT]at this;simp only[id];omega,h.2⟩)
theorem tS:∀N,Rd enc Tryz.prog W N 44 (fun v:Ty=>v.cells) Ty.Lim
 |0=>.zero
 | N+1=>(eW Tryz.underlying44 (by kernel_rfl) (bb (pC Tryz.underlying3) rfl (by kernel_rfl:_=1) (bb ((pB (tS N)).le (LA N)) rfl (by kernel_rfl:_=1) gh))).map (fun x=>Ty.mk x.1 x.2.1)
   (fun x=>by simp[Ty.cells_eq,Ty.kind,Ty.fields]) (fun x h=>Ty.lim_mk h.2.1.1 h.2.1.2)
theorem FK(N:Nat):Rd enc Tryz.prog W N 88 (fun l:List Ty=>[gy l]) (fun l=>l.length<=140737488355328/\∀v∈l,v.Lim):=
 (gS (tS N) Tryz.underlying88 (by kernel_rfl:_=2) (by decide) (by kernel_rfl:_=32) (ev:=Ty.av) (gE fun v=>rfl)).map id (fun l=>by simp[gy]) (fun l h=>⟨by have:=h.1;rw[gT]at this;simp only[id];omega,h.2⟩)
theorem FJ(N:Nat):Rd enc Tryz.prog W (N+1) 90 (fun s:Sig=>ab s.av) Sig.Lim:=
 (eW Tryz.underlying90 (by kernel_rfl) (bb (j0 Tryz.underlying9) rfl (by kernel_rfl:_=1) (bb (FK N) rfl (by kernel_rfl:_=1) (bb (tS N) rfl (by kernel_rfl:_=2) (bb (pC Tryz.underlying3) rfl (by kernel_rfl:_=1) gh))))).map
  (fun x=>(⟨x.1,x.2.1,x.2.2.1,x.2.2.2.1⟩:Sig)) (fun x=>by simp[Ty.cells_eq]) (fun x h=>⟨h.2.1.1,h.2.1.2,h.2.2.1⟩)
theorem Ck(N:Nat):Rd enc Tryz.prog W N 54 (fun l:List Sig=>[sigs l]) (fun l=>l.length<=140737488355328/\∀v∈l,v.Lim):=
 ((gS (FJ N) Tryz.underlying54 (by kernel_rfl:_=5) (by decide) (by kernel_rfl:_=80) (ev:=Sig.av) (gE fun v=>rfl)).map id (fun l=>by simp[sigs]) (fun l h=>⟨by have:=h.1;rw[gT]at this;simp only[id];omega,h.2⟩)).le (LA N)
theorem Ci(N:Nat):Rd enc Tryz.prog W (N+1) 56 (fun f:Face=>ab f.av) Face.Lim:=
 (eW Tryz.underlying56 (by kernel_rfl) (bb (j0 Tryz.underlying9) rfl (by kernel_rfl:_=1) (bb (Ck N) rfl (by kernel_rfl:_=1) gh))).map
  (fun x=>(⟨x.1,x.2.1⟩:Face)) (fun x=>by simp) (fun x h=>⟨h.2.1.1,h.2.1.2⟩)
end
end Go.Proofs.YtblddnfanlkgiaaGreat
namespace Go.Proofs.YtblddnfanlkgiaaGreat
open Go Go.Av Go.Av.Ap Go.RowKit
set_option maxRecDepth 1000000
section
variable {H:Type} {enc:TypeId×Value->H} {W:World}
theorem wY(N:Nat):Rd enc Tryz.prog W N 22 (fun l:List aT=>[strs l]) (fun l=>l.length<=8796093022208):=
 (gS (j0 Tryz.underlying9) Tryz.underlying22 (by kernel_rfl:_=1) (by decide) (by kernel_rfl:_=16) (zB fun _=>rfl)).map id (fun _=>rfl) (fun l h=>by have:=h.1;rw[gT]at this;simp only[id];omega)
theorem Exp.lim_mk{o n:Int}{s m:aT}{ns:List aT}{es:List Exp}(h1:ns.length<=8796093022208)(h2:es.length<=140737488355328)(h3:∀v∈es,v.Lim):(Exp.mk o n s m ns es).Lim:=fun j=>match j with
 |0=>trivial
 |j+1=>⟨h1,h2,fun x hx=>h3 x hx j⟩
theorem pz{N:Nat}(h:Rd enc Tryz.prog W N 46 (fun v:Exp=>v.cells) Exp.Lim):Rd enc Tryz.prog W N 24 (fun l:List Exp=>[bp l]) (fun l=>l.length<=140737488355328/\∀v∈l,v.Lim):=
 (gS h Tryz.underlying24 (by kernel_rfl:_=6) (by decide) (by kernel_rfl:_=96) (ev:=Exp.av) (gE fun v=>rfl)).map id (fun l=>by simp[bp,fE]) (fun l h=>⟨by have:=h.1;rw[gT]at this;simp only[id];omega,h.2⟩)
theorem vK:∀N,Rd enc Tryz.prog W N 46 (fun v:Exp=>v.cells) Exp.Lim
 |0=>.zero
 | N+1=>(eW Tryz.underlying46 (by kernel_rfl) (bb (pC Tryz.underlying3) rfl (by kernel_rfl:_=1) (bb (pC Tryz.underlying3) rfl (by kernel_rfl:_=1) (bb (j0 Tryz.underlying9) rfl (by kernel_rfl:_=1) (bb (j0 Tryz.underlying9) rfl (by kernel_rfl:_=1)
   (bb (wY N) rfl (by kernel_rfl:_=1) (bb (pz (vK N)) rfl (by kernel_rfl:_=1) gh))))))).map (fun x=>Exp.mk x.1 x.2.1 x.2.2.1 x.2.2.2.1 x.2.2.2.2.1 x.2.2.2.2.2.1) (fun x=>by simp[Exp.cells_eq,Exp.op,Exp.n,Exp.s,Exp.m,Exp.names,Exp.args]) (fun x h=>Exp.lim_mk h.2.2.2.2.1 h.2.2.2.2.2.1.1 h.2.2.2.2.2.1.2)
theorem r9(N:Nat):Rd enc Tryz.prog W N 24 (fun l:List Exp=>[bp l]) (fun l=>l.length<=140737488355328/\∀v∈l,v.Lim):=pz (vK N)
theorem sd(N:Nat):Rd enc Tryz.prog W N 23 (fun l:List bI=>[aN l]) (fun l=>l.length<=140737488355328/\∀v∈l,v.2.Lim):=(pB (tS N)).le (LA N)
theorem FI(N:Nat):Rd enc Tryz.prog W (N+1) 48 (fun f:Fun=>ab f.av) Fun.Lim:=
 (eW Tryz.underlying48 (by kernel_rfl) (bb (j0 Tryz.underlying9) rfl (by kernel_rfl:_=1) (bb (wX Tryz.underlying4) rfl (by kernel_rfl:_=1) (bb (sd N) rfl (by kernel_rfl:_=1) (bb (tS N) rfl (by kernel_rfl:_=2)
  (bb (pC Tryz.underlying3) rfl (by kernel_rfl:_=1) (bb (vK N) rfl (by kernel_rfl:_=6) gh))))))).map (fun x=>(⟨x.1,x.2.1,x.2.2.1,x.2.2.2.1,x.2.2.2.2.1,x.2.2.2.2.2.1⟩:Fun))
  (fun x=>by simp[Ty.cells_eq,Exp.cells_eq]) (fun x h=>⟨h.2.2.1.1,h.2.2.1.2,h.2.2.2.1,h.2.2.2.2.2.1⟩)
theorem Cj(N:Nat):Rd enc Tryz.prog W N 25 (fun l:List Fun=>[dK l]) (fun l=>l.length<=140737488355328/\∀v∈l,v.Lim):=
 ((gS (FI N) Tryz.underlying25 (by kernel_rfl:_=12) (by decide) (by kernel_rfl:_=184) (ev:=Fun.av) (gE fun v=>rfl)).map id (fun l=>by simp[dK]) (fun l h=>⟨by have:=h.1;rw[gT]at this;simp only[id];omega,h.2⟩)).le (LA N)
theorem vL(N:Nat):Rd enc Tryz.prog W (N+1) 29 (fun m:Mod=>ab m.av) Mod.Lim:=
 (eW Tryz.underlying29 (by kernel_rfl) (bb (j0 Tryz.underlying9) rfl (by kernel_rfl:_=1) (bb (wY N) rfl (by kernel_rfl:_=1) (bb (sd N) rfl (by kernel_rfl:_=1) (bb (r9 N) rfl (by kernel_rfl:_=1)
  (bb (Cj N) rfl (by kernel_rfl:_=1) (bb (wX Tryz.underlying4) rfl (by kernel_rfl:_=1)
  (bb ((eW Tryz.underlying27 (by kernel_rfl) (bb (sd N) rfl (by kernel_rfl:_=1) (bb (r9 N) rfl (by kernel_rfl:_=1) (bb (r9 N) rfl (by kernel_rfl:_=1) gh)))).le (LA N)) rfl (by kernel_rfl:_=3) gh)))))))).map
  (fun x=>(⟨x.1,x.2.1,x.2.2.1,x.2.2.2.1,x.2.2.2.2.1,x.2.2.2.2.2.1,x.2.2.2.2.2.2.1.1,x.2.2.2.2.2.2.1.2.1,x.2.2.2.2.2.2.1.2.2.1⟩:Mod))
  (fun x=>by simp) (fun x h=>⟨by have:=h.2.1;simp only;omega,h.2.2.1.1,h.2.2.1.2,h.2.2.2.1.1,h.2.2.2.1.2,h.2.2.2.2.1.1,h.2.2.2.2.1.2,h.2.2.2.2.2.2.1.1.1,h.2.2.2.2.2.2.1.1.2,h.2.2.2.2.2.2.1.2.1.1,h.2.2.2.2.2.2.1.2.1.2,h.2.2.2.2.2.2.1.2.2.1.1,h.2.2.2.2.2.2.1.2.2.1.2⟩)
end
end Go.Proofs.YtblddnfanlkgiaaGreat
namespace Go.Proofs.YtblddnfanlkgiaaGreat
open Go Go.Av Go.Av.Ap Go.RowKit
set_option maxRecDepth 1000000
section
variable {H:Type} {enc:TypeId×Value->H} {W:World}
theorem Ao(N:Nat):Rd enc Tryz.prog W N 30 (fun l:List Face=>[faces l]) (fun l=>l.length<=140737488355328/\∀v∈l,v.Lim):=
 ((gS (Ci N) Tryz.underlying30 (by kernel_rfl:_=2) (by decide) (by kernel_rfl:_=40) (ev:=Face.av) (gE fun v=>rfl)).map id (fun l=>by simp[faces]) (fun l h=>⟨by have:=h.1;rw[gT]at this;simp only[id];omega,h.2⟩)).le (LA N)
end
end Go.Proofs.YtblddnfanlkgiaaGreat
namespace Go.Proofs.YtblddnfanlkgiaaGreat
open Go Go.Av Go.Av.Ap
set_option maxRecDepth 100000
noncomputable section
abbrev EE(k:Nat)(fn:Go.Func)(g:Ann)(l:List AV)(S:CC->bm AV->M AV):Prop:=∀call fx,cX (pg.cx call fn.ntmps g) fx fn (own k) l=S call fx
def S11(call:CC)(fx:bm AV)(a0 a1 a2 a3:AV):M AV:=ae (ai (ah T 29 (.ip (ab a0)))) fun a=>ae (call 10 [a,a2]) fun b=>ae (call 28 [b,a3]) fun c=>ae (ai (ah T 29 (.ip (ab a1)))) fun d=>ae (call 10 [d,a2]) fun e=>ae (call 28 [e,a3]) fun f=>ae (ai (aw T .lss 3 c (.int .i64 0))) fun g=>ae (aA g false 1 (ae (ai (aw T .lss 3 f (.int .i64 0))) fun h=>M.pure [h])) fun i=>ae (ai (aM g (.bool true) (nth i 0))) fun j=>ax j (ae (ai (aw T .eql 3 c f)) fun k=>M.pure k) (ae (ai (aw T .eql 3 a2 (.int .i64 0))) fun l=>ax l (M.pure (AV.bool true)) (ae (ai (aw T .eql 3 a2 (.int .i64 1))) fun m=>ax m (ae (ai (aa T 29 (.ip (ab a0)) 2)) fun n=>ae (ai (ah T 23 n)) fun o=>ae (ai (ak T 23 o c)) fun p=>ae (ai (aa T 51 p 1)) fun q=>ae (ai (ah T 44 q)) fun r=>ae (ai (aa T 29 (.ip (ab a1)) 2)) fun s=>ae (ai (ah T 23 s)) fun u=>ae (ai (ak T 23 u f)) fun v=>ae (ai (aa T 51 v 1)) fun w=>ae (ai (ah T 44 w)) fun x=>ae (bz (call 29 [r,x])) fun y=>ae (aA y true 1 (ae (ai (aa T 29 (.ip (ab a0)) 3)) fun z=>ae (ai (ah T 24 z)) fun A=>ae (ai (ak T 24 A c)) fun B=>ae (ai (ah T 46 B)) fun C=>ae (ai (aa T 29 (.ip (ab a1)) 3)) fun D=>ae (ai (ah T 24 D)) fun E=>ae (ai (ak T 24 E f)) fun F=>ae (ai (ah T 46 F)) fun G=>ae (bz (call 30 [C,G])) fun H=>M.pure [H])) fun I=>ae (ai (aM y (nth I 0) (.bool false))) fun J=>M.pure J) (ae (ai (aw T .eql 3 a2 (.int .i64 2))) fun K=>ax K (ae (ai (aa T 29 (.ip (ab a0)) 4)) fun L=>ae (ai (ah T 25 L)) fun N=>ae (ai (ak T 25 N c)) fun O=>ae (ai (ah T 48 O)) fun P=>ae (ai (aa T 29 (.ip (ab a1)) 4)) fun Q=>ae (ai (ah T 25 Q)) fun R=>ae (ai (ak T 25 R f)) fun S=>ae (ai (ah T 48 S)) fun U=>ae (bz (call 31 [P,U])) fun V=>M.pure V) (ae (ai (aa T 29 (.ip (ab a0)) 6)) fun W=>ae (ai (aa T 27 W 0)) fun X=>ae (ai (ah T 23 X)) fun Y=>ae (ai (aa T 29 (.ip (ab a1)) 6)) fun Z=>ae (ai (aa T 27 Z 0)) fun u0=>ae (ai (ah T 23 u0)) fun u1=>ae (call 32 [Y,u1]) fun u2=>ae (aA u2 true 1 (ae (ai (aa T 29 (.ip (ab a0)) 6)) fun u3=>ae (ai (aa T 27 u3 1)) fun u4=>ae (ai (ah T 24 u4)) fun u5=>ae (ai (aa T 29 (.ip (ab a1)) 6)) fun u6=>ae (ai (aa T 27 u6 1)) fun u7=>ae (ai (ah T 24 u7)) fun u8=>ae (call 33 [u5,u8]) fun u9=>M.pure [u9])) fun w0=>ae (ai (aM u2 (nth w0 0) (.bool false))) fun w1=>ae (aA w1 true 1 (ae (ai (aa T 29 (.ip (ab a0)) 6)) fun w2=>ae (ai (aa T 27 w2 2)) fun w3=>ae (ai (ah T 24 w3)) fun w4=>ae (ai (aa T 29 (.ip (ab a1)) 6)) fun w5=>ae (ai (aa T 27 w5 2)) fun w6=>ae (ai (ah T 24 w6)) fun w7=>ae (call 33 [w4,w7]) fun w8=>M.pure [w8])) fun w9=>ae (ai (aM w1 (nth w9 0) (.bool false))) fun x0=>M.pure x0))))
def E11(a0 a1 a2 a3:AV):EE 11 Tryz.f11 Cz [a0,a1,a2,a3] (fun c x=>S11 c x a0 a1 a2 a3):=fun _ _=>by kernel_rfl
def C11(a0 a1 a2 a3:AV):af pg 11 [a0,a1,a2,a3]=aJ (S11 (af pg) aj (cl ar a0) (cl ar a1) (cl ar a2) (cl ar a3)):=(ay aI rfl rfl rfl _).trans (JU aJ (E11 (cl ar a0) (cl ar a1) (cl ar a2) (cl ar a3) _ _))
def L15_0(call:CC)(fx:bm AV)(a:RR)(b:List AV):M AV:=ae (ai (aa T 56 (nth b 0) 1)) fun c=>ae (ai (ah T 54 c)) fun d=>ae (ai (aP T 54 d)) fun e=>ae (ai (aw T .lss 3 (nth b 1) e)) fun f=>ae (aA f true 1 (ae (ai (aw T .lss 3 (nth b 1) (.int .i64 9))) fun g=>M.pure [g])) fun h=>ae (ai (aM f (nth h 0) (.bool false))) fun i=>ax i (ae (ai (aa T 56 (nth b 0) 1)) fun j=>ae (ai (ah T 54 j)) fun k=>ae (ai (ak T 54 k (nth b 1))) fun l=>ae (ai (ah T 90 l)) fun m=>ae (call 42 [m]) fun n=>ae (ai (dO UnOp.not n)) fun o=>ax o (M.pure (AV.bool false)) (ae (ai (aw T .add 3 (nth b 1) (.int .i64 1))) fun p=>a [nth b 0,p])) (ae (ai (aa T 56 (nth b 0) 1)) fun q=>ae (ai (ah T 54 q)) fun r=>ae (ai (aP T 54 r)) fun s=>ae (ai (aw T .leq 3 s (.int .i64 8))) fun u=>M.pure u)
def XL15_0{call:CC}:bc (L15_0 call aj) fun _n=>L15_0 call aj  :=by
 intro a b c d;unfold L15_0;exact (by(iterate 6 refine lb fun _=>?_);exact (au (by(iterate 6 refine lb fun _=>?_);exact (au (aQ.const _) (lb fun _=>c _))) (aQ.const _)))
def FL15_0(call:CC)(vs:List AV):aj (L15_0 call aj) vs=L15_0 call aj  (aj (L15_0 call aj)) vs:=aR (XL15_0) vs
def S15(call:CC)(fx:bm AV)(a0:AV):M AV:=fx (L15_0 call fx) [.ip (ab a0),.int .i64 0]
def E15(a0:AV):EE 15 Tryz.f15 CB [a0] (fun c x=>S15 c x a0):=fun _ _=>by kernel_rfl
def C15(a0:AV):af pg 15 [a0]=aJ (S15 (af pg) aj (cl ar a0)):=(ay aI rfl rfl rfl _).trans (JU aJ (E15 (cl ar a0) _ _))
def L19_0(call:CC)(fx:bm AV)(a:RR)(b:List AV):M AV:=ae (ai (aw T .lss 3 (nth b 3) (nth b 2))) fun c=>ax c (ae (ai (ak T 23 (nth b 1) (nth b 3))) fun d=>ae (ai (ah T 51 d)) fun e=>ae (aO 3 e) fun f=>ae (ai (aa T 29 (nth b 0) 0)) fun g=>ae (ai (ah T 9 g)) fun h=>ae (ai (aa T 29 (nth b 0) 2)) fun i=>ae (ai (ah T 23 i)) fun j=>ae (ai (aa T 29 (nth b 0) 6)) fun k=>ae (ai (aa T 27 k 2)) fun l=>ae (ai (ah T 24 l)) fun m=>ae (ai (ak T 24 m (nth b 3))) fun n=>ae (ai (ah T 46 n)) fun o=>ae (ai (aa T 51 (.ip (ab f)) 1)) fun p=>ae (ai (ah T 44 p)) fun q=>ae (bz (call 65 [h,j,o,q])) fun r=>ae (ai (aw T .neq 33 r (.int .i64 0))) fun s=>ax s (ae (ai (aa T 51 (.ip (ab f)) 0)) fun u=>ae (ai (ah T 9 u)) fun v=>M.pure (AV.tup [v,r])) (ae (ai (aw T .add 3 (nth b 3) (.int .i64 1))) fun w=>a [nth b 0,nth b 1,nth b 2,w])) (M.pure (AV.tup [.str [],.int .i64 0]))
def L19_1(call:CC)(fx:bm AV)(a:RR)(b:List AV):M AV:=ae (ai (aw T .lss 3 (nth b 3) (nth b 2))) fun c=>ax c (ae (ai (ak T 23 (nth b 1) (nth b 3))) fun d=>ae (ai (ah T 51 d)) fun e=>ae (aO 3 e) fun f=>ae (ai (aa T 29 (nth b 0) 0)) fun g=>ae (ai (ah T 9 g)) fun h=>ae (ai (aa T 29 (nth b 0) 6)) fun i=>ae (ai (aa T 27 i 0)) fun j=>ae (ai (ah T 23 j)) fun k=>ae (ai (aa T 29 (nth b 0) 6)) fun l=>ae (ai (aa T 27 l 1)) fun m=>ae (ai (ah T 24 m)) fun n=>ae (ai (ak T 24 n (nth b 3))) fun o=>ae (ai (ah T 46 o)) fun p=>ae (ai (aa T 51 (.ip (ab f)) 1)) fun q=>ae (ai (ah T 44 q)) fun r=>ae (bz (call 65 [h,k,p,r])) fun s=>ae (ai (aw T .neq 33 s (.int .i64 0))) fun u=>ax u (ae (ai (aa T 51 (.ip (ab f)) 0)) fun v=>ae (ai (ah T 9 v)) fun w=>M.pure (AV.tup [w,s])) (ae (ai (aw T .add 3 (nth b 3) (.int .i64 1))) fun x=>a [nth b 0,nth b 1,nth b 2,x])) (ae (ai (aa T 29 (nth b 0) 6)) fun y=>ae (ai (aa T 27 y 0)) fun z=>ae (ai (ah T 23 z)) fun A=>ae (ai (aP T 23 A)) fun B=>fx (L19_0 call fx) [nth b 0,A,B,.int .i64 0])
def L19_2(call:CC)(fx:bm AV)(a:RR)(b:List AV):M AV:=ae (ai (aw T .lss 3 (nth b 3) (nth b 2))) fun c=>ax c (ae (ai (ak T 23 (nth b 1) (nth b 3))) fun d=>ae (ai (ah T 51 d)) fun e=>ae (aO 3 e) fun f=>ae (ai (aa T 29 (nth b 0) 0)) fun g=>ae (ai (ah T 9 g)) fun h=>ae (ai (aa T 29 (nth b 0) 3)) fun i=>ae (ai (ah T 24 i)) fun j=>ae (ai (ak T 24 j (nth b 3))) fun k=>ae (ai (ah T 46 k)) fun l=>ae (ai (aa T 51 (.ip (ab f)) 1)) fun m=>ae (ai (ah T 44 m)) fun n=>ae (bz (call 65 [h,.sl [],l,n])) fun o=>ae (ai (aw T .neq 33 o (.int .i64 0))) fun p=>ax p (ae (ai (aa T 51 (.ip (ab f)) 0)) fun q=>ae (ai (ah T 9 q)) fun r=>M.pure (AV.tup [r,o])) (ae (ai (aw T .add 3 (nth b 3) (.int .i64 1))) fun s=>a [nth b 0,nth b 1,nth b 2,s])) (ae (ai (aa T 29 (nth b 0) 5)) fun u=>ae (ai (ah T 4 u)) fun v=>ae (ai (dO UnOp.not v)) fun w=>ax w (M.pure (AV.tup [.str [],.int .i64 0])) (ae (ai (aa T 29 (nth b 0) 2)) fun x=>ae (ai (ah T 23 x)) fun y=>ae (ai (aP T 23 y)) fun z=>fx (L19_1 call fx) [nth b 0,y,z,.int .i64 0]))
def XL19_0{call:CC}:bc (L19_0 call aj) fun _n=>L19_0 call aj  :=by
 intro a b c d;unfold L19_0;exact (lb fun _=>(au (by(iterate 16 refine lb fun _=>?_);exact (au (aQ.const _) (lb fun _=>c _))) (aQ.const _)))
def FL19_0(call:CC)(vs:List AV):aj (L19_0 call aj) vs=L19_0 call aj  (aj (L19_0 call aj)) vs:=aR (XL19_0) vs
def XL19_1{call:CC}:bc (L19_1 call aj) fun _n=>L19_1 call aj  :=by
 intro a b c d;unfold L19_1;exact (lb fun _=>(au (by(iterate 17 refine lb fun _=>?_);exact (au (aQ.const _) (lb fun _=>c _))) (aQ.const _)))
def FL19_1(call:CC)(vs:List AV):aj (L19_1 call aj) vs=L19_1 call aj  (aj (L19_1 call aj)) vs:=aR (XL19_1) vs
def XL19_2{call:CC}:bc (L19_2 call aj) fun _n=>L19_2 call aj  :=by
 intro a b c d;unfold L19_2;exact (lb fun _=>(au (by(iterate 13 refine lb fun _=>?_);exact (au (aQ.const _) (lb fun _=>c _))) (aQ.const _)))
def FL19_2(call:CC)(vs:List AV):aj (L19_2 call aj) vs=L19_2 call aj  (aj (L19_2 call aj)) vs:=aR (XL19_2) vs
def S19(call:CC)(fx:bm AV)(a0:AV):M AV:=ae (ai (aa T 29 (.ip (ab a0)) 2)) fun a=>ae (ai (ah T 23 a)) fun b=>ae (ai (aP T 23 b)) fun c=>fx (L19_2 call fx) [.ip (ab a0),b,c,.int .i64 0]
def E19(a0:AV):EE 19 Tryz.f19 CH [a0] (fun c x=>S19 c x a0):=fun _ _=>by kernel_rfl
def C19(a0:AV):af pg 19 [a0]=aJ (S19 (af pg) aj (cl ar a0)):=(ay aI rfl rfl rfl _).trans (JU aJ (E19 (cl ar a0) _ _))
def S24(call:CC)(fx:bm AV)(a0:AV):M AV:=ae (ai (ah T 44 (.ip (ab a0)))) fun a=>ae (call 76 [a,.int .i64 4]) fun b=>M.pure b
def E24(a0:AV):EE 24 Tryz.f24 CM [a0] (fun c x=>S24 c x a0):=fun _ _=>by kernel_rfl
def C24(a0:AV):af pg 24 [a0]=aJ (S24 (af pg) aj (cl ar a0)):=(ay aI rfl rfl rfl _).trans (JU aJ (E24 (cl ar a0) _ _))
def S25(call:CC)(fx:bm AV)(a0:AV):M AV:=ae (ai (ah T 46 (.ip (ab a0)))) fun a=>ae (call 77 [a,.int .i64 12]) fun b=>M.pure b
def E25(a0:AV):EE 25 Tryz.f25 CN [a0] (fun c x=>S25 c x a0):=fun _ _=>by kernel_rfl
def C25(a0:AV):af pg 25 [a0]=aJ (S25 (af pg) aj (cl ar a0)):=(ay aI rfl rfl rfl _).trans (JU aJ (E25 (cl ar a0) _ _))
def L27_0(call:CC)(fx:bm AV)(a:RR)(b:List AV):M AV:=ae (ai (aP T 22 (nth b 0))) fun c=>ae (ai (aw T .lss 3 (nth b 2) c)) fun d=>ax d (ae (ai (ak T 22 (nth b 0) (nth b 2))) fun e=>ae (ai (ah T 9 e)) fun f=>ae (ai (aw T .eql 9 f (nth b 1))) fun g=>ax g (M.pure (AV.bool true)) (ae (ai (aw T .add 3 (nth b 2) (.int .i64 1))) fun h=>a [nth b 0,nth b 1,h])) (M.pure (AV.bool false))
def XL27_0{call:CC}:bc (L27_0 call aj) fun _n=>L27_0 call aj  :=by
 intro a b c d;unfold L27_0;exact (lb fun _=>(lb fun _=>(au (lb fun _=>(lb fun _=>(lb fun _=>(au (aQ.const _) (lb fun _=>c _))))) (aQ.const _))))
def FL27_0(call:CC)(vs:List AV):aj (L27_0 call aj) vs=L27_0 call aj  (aj (L27_0 call aj)) vs:=aR (XL27_0) vs
def S27(call:CC)(fx:bm AV)(a0 a1:AV):M AV:=fx (L27_0 call fx) [a0,a1,.int .i64 0]
def E27(a0 a1:AV):EE 27 Tryz.f27 CP [a0,a1] (fun c x=>S27 c x a0 a1):=fun _ _=>by kernel_rfl
def C27(a0 a1:AV):af pg 27 [a0,a1]=aJ (S27 (af pg) aj (cl ar a0) (cl ar a1)):=(ay aI rfl rfl rfl _).trans (JU aJ (E27 (cl ar a0) (cl ar a1) _ _))
def S31(call:CC)(fx:bm AV)(a0 a1:AV):M AV:=ae (ai (aa T 48 (.ip (ab a0)) 0)) fun a=>ae (ai (ah T 9 a)) fun b=>ae (ai (aa T 48 (.ip (ab a1)) 0)) fun c=>ae (ai (ah T 9 c)) fun d=>ae (ai (aw T .eql 9 b d)) fun e=>ae (aA e true 1 (ae (ai (aa T 48 (.ip (ab a0)) 1)) fun f=>ae (ai (ah T 4 f)) fun g=>ae (ai (aa T 48 (.ip (ab a1)) 1)) fun h=>ae (ai (ah T 4 h)) fun i=>ae (ai (aw T .eql 4 g i)) fun j=>M.pure [j])) fun k=>ae (ai (aM e (nth k 0) (.bool false))) fun l=>ae (aA l true 1 (ae (ai (aa T 48 (.ip (ab a0)) 2)) fun m=>ae (ai (ah T 23 m)) fun n=>ae (ai (aa T 48 (.ip (ab a1)) 2)) fun o=>ae (ai (ah T 23 o)) fun p=>ae (call 32 [n,p]) fun q=>M.pure [q])) fun r=>ae (ai (aM l (nth r 0) (.bool false))) fun s=>ae (aA s true 1 (ae (ai (aa T 48 (.ip (ab a0)) 3)) fun u=>ae (ai (ah T 44 u)) fun v=>ae (ai (aa T 48 (.ip (ab a1)) 3)) fun w=>ae (ai (ah T 44 w)) fun x=>ae (call 29 [v,x]) fun y=>M.pure [y])) fun z=>ae (ai (aM s (nth z 0) (.bool false))) fun A=>ae (aA A true 1 (ae (ai (aa T 48 (.ip (ab a0)) 4)) fun B=>ae (ai (ah T 3 B)) fun C=>ae (ai (aa T 48 (.ip (ab a1)) 4)) fun D=>ae (ai (ah T 3 D)) fun E=>ae (ai (aw T .eql 3 C E)) fun F=>M.pure [F])) fun G=>ae (ai (aM A (nth G 0) (.bool false))) fun H=>ae (aA H true 1 (ae (ai (aa T 48 (.ip (ab a0)) 5)) fun I=>ae (ai (ah T 46 I)) fun J=>ae (ai (aa T 48 (.ip (ab a1)) 5)) fun K=>ae (ai (ah T 46 K)) fun L=>ae (call 30 [J,L]) fun N=>M.pure [N])) fun O=>ae (ai (aM H (nth O 0) (.bool false))) fun P=>M.pure P
def E31(a0 a1:AV):EE 31 Tryz.f31 CU [a0,a1] (fun c x=>S31 c x a0 a1):=fun _ _=>by kernel_rfl
def C31(a0 a1:AV):af pg 31 [a0,a1]=aJ (S31 (af pg) aj (cl ar a0) (cl ar a1)):=(ay aI rfl rfl rfl _).trans (JU aJ (E31 (cl ar a0) (cl ar a1) _ _))
def L32_0(call:CC)(fx:bm AV)(a:RR)(b:List AV):M AV:=ae (ai (aP T 23 (nth b 0))) fun c=>ae (ai (aw T .lss 3 (nth b 2) c)) fun d=>ax d (ae (ai (ak T 23 (nth b 0) (nth b 2))) fun e=>ae (ai (aa T 51 e 0)) fun f=>ae (ai (ah T 9 f)) fun g=>ae (ai (ak T 23 (nth b 1) (nth b 2))) fun h=>ae (ai (aa T 51 h 0)) fun i=>ae (ai (ah T 9 i)) fun j=>ae (ai (aw T .neq 9 g j)) fun k=>ae (aA k false 1 (ae (ai (ak T 23 (nth b 0) (nth b 2))) fun l=>ae (ai (aa T 51 l 1)) fun m=>ae (ai (ah T 44 m)) fun n=>ae (ai (ak T 23 (nth b 1) (nth b 2))) fun o=>ae (ai (aa T 51 o 1)) fun p=>ae (ai (ah T 44 p)) fun q=>ae (bz (call 29 [n,q])) fun r=>ae (ai (dO UnOp.not r)) fun s=>M.pure [s])) fun u=>ae (ai (aM k (.bool true) (nth u 0))) fun v=>ax v (M.pure (AV.bool false)) (ae (ai (aw T .add 3 (nth b 2) (.int .i64 1))) fun w=>a [nth b 0,nth b 1,w])) (M.pure (AV.bool true))
def XL32_0{call:CC}:bc (L32_0 call aj) fun _n=>L32_0 call aj  :=by
 intro a b c d;unfold L32_0;exact (lb fun _=>(lb fun _=>(au (by(iterate 9 refine lb fun _=>?_);exact (au (aQ.const _) (lb fun _=>c _))) (aQ.const _))))
def FL32_0(call:CC)(vs:List AV):aj (L32_0 call aj) vs=L32_0 call aj  (aj (L32_0 call aj)) vs:=aR (XL32_0) vs
def S32(call:CC)(fx:bm AV)(a0 a1:AV):M AV:=ae (ai (aP T 23 a0)) fun a=>ae (ai (aP T 23 a1)) fun b=>ae (ai (aw T .neq 3 a b)) fun c=>ax c (M.pure (AV.bool false)) (fx (L32_0 call fx) [a0,a1,.int .i64 0])
def E32(a0 a1:AV):EE 32 Tryz.f32 CV [a0,a1] (fun c x=>S32 c x a0 a1):=fun _ _=>by kernel_rfl
def C32(a0 a1:AV):af pg 32 [a0,a1]=aJ (S32 (af pg) aj (cl ar a0) (cl ar a1)):=(ay aI rfl rfl rfl _).trans (JU aJ (E32 (cl ar a0) (cl ar a1) _ _))
def S36(call:CC)(fx:bm AV)(a0 a1:AV):M AV:=ae (ai (aa T 51 (.ip (ab a0)) 0)) fun a=>ae (ai (ah T 9 a)) fun b=>ae (ai (aa T 51 (.ip (ab a1)) 0)) fun c=>ae (ai (ah T 9 c)) fun d=>ae (ai (aw T .eql 9 b d)) fun e=>ae (aA e true 1 (ae (ai (aa T 51 (.ip (ab a0)) 1)) fun f=>ae (ai (ah T 44 f)) fun g=>ae (ai (aa T 51 (.ip (ab a1)) 1)) fun h=>ae (ai (ah T 44 h)) fun i=>ae (call 37 [g,i]) fun j=>M.pure [j])) fun k=>ae (ai (aM e (nth k 0) (.bool false))) fun l=>M.pure l
def E36(a0 a1:AV):EE 36 Tryz.f36 CY [a0,a1] (fun c x=>S36 c x a0 a1):=fun _ _=>by kernel_rfl
def C36(a0 a1:AV):af pg 36 [a0,a1]=aJ (S36 (af pg) aj (cl ar a0) (cl ar a1)):=(ay aI rfl rfl rfl _).trans (JU aJ (E36 (cl ar a0) (cl ar a1) _ _))
def S38(call:CC)(fx:bm AV)(a0 a1:AV):M AV:=ae (ai (aa T 46 (.ip (ab a0)) 0)) fun a=>ae (ai (ah T 3 a)) fun b=>ae (ai (aa T 46 (.ip (ab a1)) 0)) fun c=>ae (ai (ah T 3 c)) fun d=>ae (ai (aw T .eql 3 b d)) fun e=>ae (aA e true 1 (ae (ai (aa T 46 (.ip (ab a0)) 1)) fun f=>ae (ai (ah T 3 f)) fun g=>ae (ai (aa T 46 (.ip (ab a1)) 1)) fun h=>ae (ai (ah T 3 h)) fun i=>ae (ai (aw T .eql 3 g i)) fun j=>M.pure [j])) fun k=>ae (ai (aM e (nth k 0) (.bool false))) fun l=>ae (aA l true 1 (ae (ai (aa T 46 (.ip (ab a0)) 2)) fun m=>ae (ai (ah T 9 m)) fun n=>ae (ai (aa T 46 (.ip (ab a1)) 2)) fun o=>ae (ai (ah T 9 o)) fun p=>ae (ai (aw T .eql 9 n p)) fun q=>M.pure [q])) fun r=>ae (ai (aM l (nth r 0) (.bool false))) fun s=>ae (aA s true 1 (ae (ai (aa T 46 (.ip (ab a0)) 3)) fun u=>ae (ai (ah T 9 u)) fun v=>ae (ai (aa T 46 (.ip (ab a1)) 3)) fun w=>ae (ai (ah T 9 w)) fun x=>ae (ai (aw T .eql 9 v x)) fun y=>M.pure [y])) fun z=>ae (ai (aM s (nth z 0) (.bool false))) fun A=>ae (aA A true 1 (ae (ai (aa T 46 (.ip (ab a0)) 4)) fun B=>ae (ai (ah T 22 B)) fun C=>ae (ai (aa T 46 (.ip (ab a1)) 4)) fun D=>ae (ai (ah T 22 D)) fun E=>ae (call 39 [C,E]) fun F=>M.pure [F])) fun G=>ae (ai (aM A (nth G 0) (.bool false))) fun H=>ae (aA H true 1 (ae (ai (aa T 46 (.ip (ab a0)) 5)) fun I=>ae (ai (ah T 24 I)) fun J=>ae (ai (aa T 46 (.ip (ab a1)) 5)) fun K=>ae (ai (ah T 24 K)) fun L=>ae (call 40 [J,L,.fn (Fn.func 38) [] []]) fun N=>M.pure [N])) fun O=>ae (ai (aM H (nth O 0) (.bool false))) fun P=>M.pure P
def E38(a0 a1:AV):EE 38 Tryz.f38 C0 [a0,a1] (fun c x=>S38 c x a0 a1):=fun _ _=>by kernel_rfl
def C38(a0 a1:AV):af pg 38 [a0,a1]=aJ (S38 (af pg) aj (cl ar a0) (cl ar a1)):=(ay aI rfl rfl rfl _).trans (JU aJ (E38 (cl ar a0) (cl ar a1) _ _))
def L41_0(call:CC)(fx:bm AV)(a:RR)(b:List AV):M AV:=ae (ai (aw T .lss 3 (nth b 4) (nth b 3))) fun c=>ax c (ae (ai (ak T 25 (nth b 2) (nth b 4))) fun d=>ae (ai (ah T 48 d)) fun e=>ae (aO 12 e) fun f=>ae (ai (ak T 25 (nth b 0) (nth b 4))) fun g=>ae (ai (ah T 48 g)) fun h=>ae (aO 12 h) fun i=>ae (ai (ah T 48 (.ip (ab f)))) fun j=>ae (ai (ah T 48 (.ip (ab i)))) fun k=>ae (aW call (nth b 1) [j,k]) fun l=>ae (ai (dO UnOp.not l)) fun m=>ax m (M.pure (AV.bool false)) (ae (ai (aw T .add 3 (nth b 4) (.int .i64 1))) fun n=>a [nth b 0,nth b 1,nth b 2,nth b 3,n])) (M.pure (AV.bool true))
def XL41_0{call:CC}:bc (L41_0 call aj) fun _n=>L41_0 call aj  :=by
 intro a b c d;unfold L41_0;exact (lb fun _=>(au (by(iterate 10 refine lb fun _=>?_);exact (au (aQ.const _) (lb fun _=>c _))) (aQ.const _)))
def FL41_0(call:CC)(vs:List AV):aj (L41_0 call aj) vs=L41_0 call aj  (aj (L41_0 call aj)) vs:=aR (XL41_0) vs
def S41(call:CC)(fx:bm AV)(a0 a1 a2:AV):M AV:=ae (ai (aP T 25 a0)) fun a=>ae (ai (aP T 25 a1)) fun b=>ae (ai (aw T .neq 3 a b)) fun c=>ax c (M.pure (AV.bool false)) (ae (ai (aP T 25 a0)) fun d=>fx (L41_0 call fx) [a1,a2,a0,d,.int .i64 0])
def E41(a0 a1 a2:AV):EE 41 Tryz.f41 C4 [a0,a1,a2] (fun c x=>S41 c x a0 a1 a2):=fun _ _=>by kernel_rfl
def C41(a0 a1 a2:AV):af pg 41 [a0,a1,a2]=aJ (S41 (af pg) aj (cl ar a0) (cl ar a1) (cl ar a2)):=(ay aI rfl rfl rfl _).trans (JU aJ (E41 (cl ar a0) (cl ar a1) (cl ar a2) _ _))
def S44(call:CC)(fx:bm AV)(a0:AV):M AV:=ae (ai (ah T 44 (.ip (ab a0)))) fun a=>ae (call 79 [a,.int .i64 40,.int .i64 6]) fun b=>ae (ai (aw T .leq 3 b (.int .i64 40))) fun c=>M.pure c
def E44(a0:AV):EE 44 Tryz.f44 Dc [a0] (fun c x=>S44 c x a0):=fun _ _=>by kernel_rfl
def C44(a0:AV):af pg 44 [a0]=aJ (S44 (af pg) aj (cl ar a0)):=(ay aI rfl rfl rfl _).trans (JU aJ (E44 (cl ar a0) _ _))
def L46_0(call:CC)(fx:bm AV)(a:RR)(b:List AV):M AV:=ae (ai (aP T 24 (nth b 0))) fun c=>ae (ai (aw T .lss 3 (nth b 1) c)) fun d=>ae (aA d true 1 (ae (ai (aw T .lss 3 (nth b 1) (.int .i64 9))) fun e=>M.pure [e])) fun f=>ae (ai (aM d (nth f 0) (.bool false))) fun g=>ax g (ae (ai (ak T 24 (nth b 0) (nth b 1))) fun h=>ae (ai (ah T 46 h)) fun i=>ae (call 45 [i]) fun j=>ae (ai (dO UnOp.not j)) fun k=>ax k (M.pure (AV.bool false)) (ae (ai (aw T .add 3 (nth b 1) (.int .i64 1))) fun l=>a [nth b 0,l])) (ae (ai (aP T 24 (nth b 0))) fun m=>ae (ai (aw T .leq 3 m (.int .i64 8))) fun n=>M.pure n)
def XL46_0{call:CC}:bc (L46_0 call aj) fun _n=>L46_0 call aj  :=by
 intro a b c d;unfold L46_0;exact (lb fun _=>(lb fun _=>(lb fun _=>(lb fun _=>(au (lb fun _=>(lb fun _=>(lb fun _=>(lb fun _=>(au (aQ.const _) (lb fun _=>c _)))))) (aQ.const _))))))
def FL46_0(call:CC)(vs:List AV):aj (L46_0 call aj) vs=L46_0 call aj  (aj (L46_0 call aj)) vs:=aR (XL46_0) vs
def S46(call:CC)(fx:bm AV)(a0:AV):M AV:=fx (L46_0 call fx) [a0,.int .i64 0]
def E46(a0:AV):EE 46 Tryz.f46 De [a0] (fun c x=>S46 c x a0):=fun _ _=>by kernel_rfl
def C46(a0:AV):af pg 46 [a0]=aJ (S46 (af pg) aj (cl ar a0)):=(ay aI rfl rfl rfl _).trans (JU aJ (E46 (cl ar a0) _ _))
def S51(call:CC)(fx:bm AV)(a0:AV):M AV:=ae (ai (aa T 48 (.ip (ab a0)) 0)) fun a=>ae (ai (ah T 9 a)) fun b=>M.pure b
def E51(a0:AV):EE 51 Tryz.f51 Dj [a0] (fun c x=>S51 c x a0):=fun _ _=>by kernel_rfl
def C51(a0:AV):af pg 51 [a0]=aJ (S51 (af pg) aj (cl ar a0)):=(ay aI rfl rfl rfl _).trans (JU aJ (E51 (cl ar a0) _ _))
def S54(call:CC)(fx:bm AV)(a0 a1:AV):M AV:=ae (ai (aa T 27 (.ip (ab a0)) 0)) fun a=>ae (ai (ah T 23 a)) fun b=>ae (ai (aa T 27 (.ip (ab a1)) 0)) fun c=>ae (ai (ah T 23 c)) fun d=>ae (call 81 [b,d]) fun e=>ae (aA e true 1 (ae (ai (aa T 27 (.ip (ab a0)) 1)) fun f=>ae (ai (ah T 24 f)) fun g=>ae (ai (aa T 27 (.ip (ab a1)) 1)) fun h=>ae (ai (ah T 24 h)) fun i=>ae (call 40 [g,i,.fn (Fn.func 38) [] []]) fun j=>M.pure [j])) fun k=>ae (ai (aM e (nth k 0) (.bool false))) fun l=>ae (aA l true 1 (ae (ai (aa T 27 (.ip (ab a0)) 2)) fun m=>ae (ai (ah T 24 m)) fun n=>ae (ai (aa T 27 (.ip (ab a1)) 2)) fun o=>ae (ai (ah T 24 o)) fun p=>ae (call 40 [n,p,.fn (Fn.func 38) [] []]) fun q=>M.pure [q])) fun r=>ae (ai (aM l (nth r 0) (.bool false))) fun s=>M.pure s
def E54(a0 a1:AV):EE 54 Tryz.f54 Dm [a0,a1] (fun c x=>S54 c x a0 a1):=fun _ _=>by kernel_rfl
def C54(a0 a1:AV):af pg 54 [a0,a1]=aJ (S54 (af pg) aj (cl ar a0) (cl ar a1)):=(ay aI rfl rfl rfl _).trans (JU aJ (E54 (cl ar a0) (cl ar a1) _ _))
def K58_0(call:CC)(fx:bm AV)(a:RR)(b:List AV):M AV:=ax (nth b 11) (ae (ai (ca T 25 (nth b 4) (nth b 7))) fun c=>ae (ai (aw T .add 3 (nth b 10) (.int .i64 1))) fun d=>a [nth b 0,nth b 1,nth b 2,nth b 3,c,nth b 5,nth b 8,nth b 9,d]) (M.pure (AV.tup [.sl [],nth b 6,.bool false]))
def L58_0(call:CC)(fx:bm AV)(a:RR)(b:List AV):M AV:=ae (ai (aw T .lss 3 (nth b 8) (nth b 7))) fun c=>ax c (ae (ai (ak T 25 (nth b 6) (nth b 8))) fun d=>ae (ai (ah T 48 d)) fun e=>ae (aO 12 e) fun f=>ae (ai (aa T 105 (nth b 3) 0)) fun g=>ae (ai (ah T 103 g)) fun h=>ae (ai (ah T 48 (.ip (ab f)))) fun i=>ae (aW call h [i]) fun j=>ae (call 83 [nth b 5,j]) fun k=>ax k (ae (ai (aw T .add 3 (nth b 8) (.int .i64 1))) fun l=>a [nth b 0,nth b 1,nth b 2,nth b 3,nth b 4,nth b 5,nth b 6,nth b 7,l]) (ae (ai (aK T 22 1 [(0,j)])) fun m=>ae (ai (ca T 22 (nth b 5) m)) fun n=>ae (ai (ah T 105 (nth b 3))) fun o=>ae (bz (call 90 [o,nth b 0,j])) fun p=>ae (ai (ah T 105 (nth b 3))) fun q=>ae (bz (call 90 [q,nth b 1,j])) fun r=>ae (ai (ah T 105 (nth b 3))) fun s=>ae (bz (call 90 [s,nth b 2,j])) fun u=>ae (ai (aa T 105 (nth b 3) 1)) fun v=>ae (ai (ah T 79 v)) fun w=>ae (call 41 [p,r,w]) fun x=>ax x (ae (ai (ca T 25 (nth b 4) u)) fun y=>ae (ai (aw T .add 3 (nth b 8) (.int .i64 1))) fun z=>a [nth b 0,nth b 1,nth b 2,nth b 3,y,n,nth b 6,nth b 7,z]) (jn (K58_0 call fx a) fun A=>ae (ai (aa T 105 (nth b 3) 1)) fun B=>ae (ai (ah T 79 B)) fun C=>ae (call 41 [p,u,C]) fun D=>ax D (A [nth b 0,nth b 1,nth b 2,nth b 3,nth b 4,n,j,r,nth b 6,nth b 7,nth b 8,D]) (ae (ai (aa T 105 (nth b 3) 1)) fun E=>ae (ai (ah T 79 E)) fun F=>ae (call 41 [r,u,F]) fun G=>A [nth b 0,nth b 1,nth b 2,nth b 3,nth b 4,n,j,r,nth b 6,nth b 7,nth b 8,G])))) (M.pure (AV.tup [nth b 4,.str [],.bool true]))
def XK58_0{call:CC}{a:RR}{b:Nat->RR}(c:bA a fun n=>b n):bA (K58_0 call aj a) fun n=>K58_0 call aj (b n):=by
 intro d;unfold K58_0;exact (au (lb fun _=>(lb fun _=>c _)) (aQ.const _))
def XL58_0{call:CC}:bc (L58_0 call aj) fun _n=>L58_0 call aj  :=by
 intro a b c d;unfold L58_0;exact (lb fun _=>(au (by(iterate 8 refine lb fun _=>?_);exact (au (lb fun _=>c _) (by(iterate 11 refine lb fun _=>?_);exact (au (lb fun _=>(lb fun _=>c _)) (oY (XK58_0 c) fun _ _ e=>(lb fun _=>(lb fun _=>(lb fun _=>(au (e _) (lb fun _=>(lb fun _=>(lb fun _=>e _)))))))))))) (aQ.const _)))
def FL58_0(call:CC)(vs:List AV):aj (L58_0 call aj) vs=L58_0 call aj  (aj (L58_0 call aj)) vs:=aR (XL58_0) vs
def S58(call:CC)(fx:bm AV)(a0 a1 a2 a3:AV):M AV:=ae (ai (aK T 170 3 [(0,a1),(1,a2),(2,a3)])) fun a=>ae (call 89 [a]) fun b=>ae (ai (aP T 25 b)) fun c=>fx (L58_0 call fx) [a1,a2,a3,.ip (ab a0),.sl [],.sl [],b,c,.int .i64 0]
def E58(a0 a1 a2 a3:AV):EE 58 Tryz.f58 Dq [a0,a1,a2,a3] (fun c x=>S58 c x a0 a1 a2 a3):=fun _ _=>by kernel_rfl
def C58(a0 a1 a2 a3:AV):af pg 58 [a0,a1,a2,a3]=aJ (S58 (af pg) aj (cl ar a0) (cl ar a1) (cl ar a2) (cl ar a3)):=(ay aI rfl rfl rfl _).trans (JU aJ (E58 (cl ar a0) (cl ar a1) (cl ar a2) (cl ar a3) _ _))
def S74(call:CC)(fx:bm AV)(a0:AV):M AV:=ae (ai (aw T .eql 9 a0 (.str []))) fun a=>ae (aA a false 1 (ae (ai (fG T 9 a0 (.int .i64 0))) fun b=>ae (call 103 [b]) fun c=>ae (ai (dO UnOp.not c)) fun d=>M.pure [d])) fun e=>ae (ai (aM a (.bool true) (nth e 0))) fun f=>ae (aA f false 1 (ae (ai (aP T 9 a0)) fun g=>ae (ai (aw T .gtr 3 g (.int .i64 20))) fun h=>M.pure [h])) fun i=>ae (ai (aM f (.bool true) (nth i 0))) fun j=>ax j (M.pure (AV.bool false)) (ae (call 104 [a0,.fn (Fn.func 105) [] []]) fun k=>ae (ai (aP T 9 a0)) fun l=>ae (ai (aw T .eql 3 k l)) fun m=>M.pure m)
def E74(a0:AV):EE 74 Tryz.f74 DJ [a0] (fun c x=>S74 c x a0):=fun _ _=>by kernel_rfl
def C74(a0:AV):af pg 74 [a0]=aJ (S74 (af pg) aj (cl ar a0)):=(ay aI rfl rfl rfl _).trans (JU aJ (E74 (cl ar a0) _ _))
def L82_0(call:CC)(fx:bm AV)(a:RR)(b:List AV):M AV:=ae (ai (aw T .lss 3 (nth b 3) (nth b 2))) fun c=>ax c (ae (ai (ak T 165 (nth b 1) (nth b 3))) fun d=>ae (ai (ah T 22 d)) fun e=>ae (ai (ca T 22 (nth b 0) e)) fun f=>ae (ai (aw T .add 3 (nth b 3) (.int .i64 1))) fun g=>a [f,nth b 1,nth b 2,g]) (M.pure (nth b 0))
def L82_1(call:CC)(fx:bm AV)(a:RR)(b:List AV):M AV:=ae (ai (aw T .lss 3 (nth b 4) (nth b 3))) fun c=>ax c (ae (ai (ak T 165 (nth b 2) (nth b 4))) fun d=>ae (ai (ah T 22 d)) fun e=>ae (ai (aP T 22 e)) fun f=>ae (ai (aw T .add 3 (nth b 1) f)) fun g=>ae (ai (aw T .lss 3 g (.int .i64 0))) fun h=>ax h (ae (ai (gP T 9 (.str [108,101,110,32,111,117,116,32,111,102,32,114,97,110,103,101]))) fun i=>ae (Af i) fun j=>ae (ai (aw T .add 3 (nth b 4) (.int .i64 1))) fun k=>a [nth b 0,g,nth b 2,nth b 3,k]) (ae (ai (aw T .add 3 (nth b 4) (.int .i64 1))) fun l=>a [nth b 0,g,nth b 2,nth b 3,l])) (ae (call 111 [.hn,nth b 1]) fun m=>ae (ai (aP T 165 (nth b 0))) fun n=>fx (L82_0 call fx) [m,nth b 0,n,.int .i64 0])
def XL82_0{call:CC}:bc (L82_0 call aj) fun _n=>L82_0 call aj  :=by
 intro a b c d;unfold L82_0;exact (lb fun _=>(au (lb fun _=>(lb fun _=>(lb fun _=>(lb fun _=>c _)))) (aQ.const _)))
def FL82_0(call:CC)(vs:List AV):aj (L82_0 call aj) vs=L82_0 call aj  (aj (L82_0 call aj)) vs:=aR (XL82_0) vs
def XL82_1{call:CC}:bc (L82_1 call aj) fun _n=>L82_1 call aj  :=by
 intro a b c d;unfold L82_1;exact (lb fun _=>(au (by(iterate 5 refine lb fun _=>?_);exact (au (lb fun _=>(lb fun _=>(lb fun _=>c _))) (lb fun _=>c _))) (aQ.const _)))
def FL82_1(call:CC)(vs:List AV):aj (L82_1 call aj) vs=L82_1 call aj  (aj (L82_1 call aj)) vs:=aR (XL82_1) vs
def S82(call:CC)(fx:bm AV)(a0:AV):M AV:=ae (ai (aP T 165 a0)) fun a=>fx (L82_1 call fx) [a0,.int .i64 0,a0,a,.int .i64 0]
def E82(a0:AV):EE 82 Tryz.f82 DU [a0] (fun c x=>S82 c x a0):=fun _ _=>by kernel_rfl
def C82(a0:AV):af pg 82 [a0]=aJ (S82 (af pg) aj (cl ar a0)):=(ay aI rfl rfl rfl _).trans (JU aJ (E82 (cl ar a0) _ _))
def L85_0(call:CC)(fx:bm AV)(a:RR)(b:List AV):M AV:=ae (ai (aw T .lss 3 (nth b 4) (nth b 3))) fun c=>ax c (ae (ai (ak T 22 (nth b 2) (nth b 4))) fun d=>ae (ai (ah T 9 d)) fun e=>ae (ai (ak T 22 (nth b 0) (nth b 4))) fun f=>ae (ai (ah T 9 f)) fun g=>ae (aW call (nth b 1) [e,g]) fun h=>ae (ai (dO UnOp.not h)) fun i=>ax i (M.pure (AV.bool false)) (ae (ai (aw T .add 3 (nth b 4) (.int .i64 1))) fun j=>a [nth b 0,nth b 1,nth b 2,nth b 3,j])) (M.pure (AV.bool true))
def XL85_0{call:CC}:bc (L85_0 call aj) fun _n=>L85_0 call aj  :=by
 intro a b c d;unfold L85_0;exact (lb fun _=>(au (by(iterate 6 refine lb fun _=>?_);exact (au (aQ.const _) (lb fun _=>c _))) (aQ.const _)))
def FL85_0(call:CC)(vs:List AV):aj (L85_0 call aj) vs=L85_0 call aj  (aj (L85_0 call aj)) vs:=aR (XL85_0) vs
def S85(call:CC)(fx:bm AV)(a0 a1 a2:AV):M AV:=ae (ai (aP T 22 a0)) fun a=>ae (ai (aP T 22 a1)) fun b=>ae (ai (aw T .neq 3 a b)) fun c=>ax c (M.pure (AV.bool false)) (ae (ai (aP T 22 a0)) fun d=>fx (L85_0 call fx) [a1,a2,a0,d,.int .i64 0])
def E85(a0 a1 a2:AV):EE 85 Tryz.f85 DX [a0,a1,a2] (fun c x=>S85 c x a0 a1 a2):=fun _ _=>by kernel_rfl
def C85(a0 a1 a2:AV):af pg 85 [a0,a1,a2]=aJ (S85 (af pg) aj (cl ar a0) (cl ar a1) (cl ar a2)):=(ay aI rfl rfl rfl _).trans (JU aJ (E85 (cl ar a0) (cl ar a1) (cl ar a2) _ _))
def S90(call:CC)(fx:bm AV)(a0 a1 a2:AV):M AV:=ae (call 118 [a1,.fn (Fn.func 119) [] [.ip (ab a0),.ip (ab a2)]]) fun a=>ae (ai (aw T .lss 3 a (.int .i64 0))) fun b=>ax b (M.pure (AV.sl [])) (ae (ai (aw T .add 3 a (.int .i64 1))) fun c=>ae (ai (d6 T 25 a1 (some a) (some c) none)) fun d=>M.pure d)
def E90(a0 a1 a2:AV):EE 90 Tryz.f90 D3 [a0,a1,a2] (fun c x=>S90 c x a0 a1 a2):=fun _ _=>by kernel_rfl
def C90(a0 a1 a2:AV):af pg 90 [a0,a1,a2]=aJ (S90 (af pg) aj (cl ar a0) (cl ar a1) (cl ar a2)):=(ay aI rfl rfl rfl _).trans (JU aJ (E90 (cl ar a0) (cl ar a1) (cl ar a2) _ _))
def S92(call:CC)(fx:bm AV)(a0 a1 a2:AV):M AV:=ae (call 121 [a1,.fn (Fn.func 122) [] [.ip (ab a0),.ip (ab a2)]]) fun a=>ae (ai (aw T .lss 3 a (.int .i64 0))) fun b=>ax b (M.pure (AV.sl [])) (ae (ai (aw T .add 3 a (.int .i64 1))) fun c=>ae (ai (d6 T 118 a1 (some a) (some c) none)) fun d=>M.pure d)
def E92(a0 a1 a2:AV):EE 92 Tryz.f92 D5 [a0,a1,a2] (fun c x=>S92 c x a0 a1 a2):=fun _ _=>by kernel_rfl
def C92(a0 a1 a2:AV):af pg 92 [a0,a1,a2]=aJ (S92 (af pg) aj (cl ar a0) (cl ar a1) (cl ar a2)):=(ay aI rfl rfl rfl _).trans (JU aJ (E92 (cl ar a0) (cl ar a1) (cl ar a2) _ _))
def L96_0(call:CC)(fx:bm AV)(a:RR)(b:List AV):M AV:=ae (ai (aw T .lss 3 (nth b 3) (nth b 2))) fun c=>ax c (ae (ai (ak T 88 (nth b 0) (nth b 3))) fun d=>ae (ai (ah T 44 d)) fun e=>ae (aW call (nth b 1) [e]) fun f=>ax f (M.pure (nth b 3)) (ae (ai (aw T .add 3 (nth b 3) (.int .i64 1))) fun g=>a [nth b 0,nth b 1,nth b 2,g])) (M.pure (AV.int .i64 (-1)))
def XL96_0{call:CC}:bc (L96_0 call aj) fun _n=>L96_0 call aj  :=by
 intro a b c d;unfold L96_0;exact (lb fun _=>(au (lb fun _=>(lb fun _=>(lb fun _=>(au (aQ.const _) (lb fun _=>c _))))) (aQ.const _)))
def FL96_0(call:CC)(vs:List AV):aj (L96_0 call aj) vs=L96_0 call aj  (aj (L96_0 call aj)) vs:=aR (XL96_0) vs
def S96(call:CC)(fx:bm AV)(a0 a1:AV):M AV:=ae (ai (aP T 88 a0)) fun a=>fx (L96_0 call fx) [a0,a1,a,.int .i64 0]
def E96(a0 a1:AV):EE 96 Tryz.f96 D9 [a0,a1] (fun c x=>S96 c x a0 a1):=fun _ _=>by kernel_rfl
def C96(a0 a1:AV):af pg 96 [a0,a1]=aJ (S96 (af pg) aj (cl ar a0) (cl ar a1)):=(ay aI rfl rfl rfl _).trans (JU aJ (E96 (cl ar a0) (cl ar a1) _ _))
def L101_0(call:CC)(fx:bm AV)(a:RR)(b:List AV):M AV:=ae (ai (aw T .lss 3 (nth b 3) (nth b 2))) fun c=>ax c (ae (ai (ak T 23 (nth b 1) (nth b 3))) fun d=>ae (ai (ah T 51 d)) fun e=>ae (aO 3 e) fun f=>ae (ai (aa T 44 (nth b 0) 1)) fun g=>ae (ai (ah T 23 g)) fun h=>ae (ai (aa T 51 (.ip (ab f)) 0)) fun i=>ae (ai (ah T 9 i)) fun j=>ae (call 66 [h,j]) fun k=>ae (ai (aD k 0)) fun l=>ae (ai (aD k 1)) fun m=>ae (aO 2 l) fun n=>ax m (ae (ai (aa T 51 (.ip (ab f)) 1)) fun o=>ae (ai (ah T 44 o)) fun p=>ae (ai (ah T 44 (.ip (ab n)))) fun q=>ae (call 101 [p,q]) fun r=>ae (ai (aD r 0)) fun s=>ae (ai (aD r 1)) fun u=>ae (aO 2 s) fun v=>ax u (ae (ai (aa T 51 (.ip (ab f)) 0)) fun w=>ae (ai (ah T 9 w)) fun x=>ae (ai (ah T 44 (.ip (ab v)))) fun y=>ae (ai (aY T false 51 [(0,x),(1,y)])) fun z=>ae (ai (aK T 23 1 [(0,z)])) fun A=>ae (ai (ca T 23 (nth b 7) A)) fun B=>ae (bR B) fun C=>ae (ai (aw T .add 3 (nth b 3) (.int .i64 1))) fun D=>a [nth b 0,nth b 1,nth b 2,D,nth b 4,nth b 5,nth b 6,B]) (ae (ai (aw T .add 3 (nth b 3) (.int .i64 1))) fun E=>a [nth b 0,nth b 1,nth b 2,E,nth b 4,nth b 5,nth b 6,nth b 7])) (ae (ai (aw T .add 3 (nth b 3) (.int .i64 1))) fun F=>a [nth b 0,nth b 1,nth b 2,F,nth b 4,nth b 5,nth b 6,nth b 7])) (ae (aH 2 [] (.agg [nth b 6,nth b 7])) fun G=>M.pure (AV.tup [.agg [nth (ab G) 0,nth (ab G) 1],.bool true]))
def XL101_0{call:CC}:bc (L101_0 call aj) fun _n=>L101_0 call aj  :=by
 intro a b c d;unfold L101_0;exact (lb fun _=>(au (by(iterate 11 refine lb fun _=>?_);exact (au (by(iterate 7 refine lb fun _=>?_);exact (au (by(iterate 8 refine lb fun _=>?_);exact (c _)) (lb fun _=>c _))) (lb fun _=>c _))) (aQ.const _)))
def FL101_0(call:CC)(vs:List AV):aj (L101_0 call aj) vs=L101_0 call aj  (aj (L101_0 call aj)) vs:=aR (XL101_0) vs
def S101(call:CC)(fx:bm AV)(a0 a1:AV):M AV:=ae (ai (aa T 44 (.ip (ab a0)) 0)) fun a=>ae (ai (ah T 3 a)) fun b=>ae (ai (aa T 44 (.ip (ab a1)) 0)) fun c=>ae (ai (ah T 3 c)) fun d=>ae (ai (aw T .neq 3 b d)) fun e=>ax e (ae (ai (aY T false 44 [])) fun f=>ae (aH 2 [] f) fun g=>M.pure (AV.tup [.agg [nth (ab g) 0,nth (ab g) 1],.bool false])) (ae (ai (aa T 44 (.ip (ab a0)) 0)) fun h=>ae (ai (ah T 3 h)) fun i=>ae (ai (aY T true 44 [(0,i)])) fun j=>ae (aH 2 [1] j) fun k=>ae (ai (aa T 44 (.ip (ab a0)) 1)) fun l=>ae (ai (ah T 23 l)) fun m=>ae (ai (aP T 23 m)) fun n=>fx (L101_0 call fx) [.ip (ab a1),m,n,.int .i64 0,.int .i64 0,.sl [],nth (ab k) 0,.sl []])
def E101(a0 a1:AV):EE 101 Tryz.f101 yO [a0,a1] (fun c x=>S101 c x a0 a1):=fun _ _=>by kernel_rfl
def C101(a0 a1:AV):af pg 101 [a0,a1]=aJ (S101 (af pg) aj (cl ar a0) (cl ar a1)):=(ay aI rfl rfl rfl _).trans (JU aJ (E101 (cl ar a0) (cl ar a1) _ _))
def L109_0(call:CC)(fx:bm AV)(a:RR)(b:List AV):M AV:=ae (ai (aw T .lss 3 (nth b 3) (nth b 2))) fun c=>ax c (ae (ai (ak T 22 (nth b 1) (nth b 3))) fun d=>ae (ai (ah T 9 d)) fun e=>ae (call 22 [e]) fun f=>ae (ai (dO UnOp.not f)) fun g=>ae (aA g false 1 (ae (ai (aw T .gtr 3 (nth b 3) (.int .i64 0))) fun h=>M.pure [h])) fun i=>ae (aA (nth i 0) true 1 (ae (ai (aa T 46 (nth b 0) 4)) fun j=>ae (ai (ah T 22 j)) fun k=>ae (ai (aw T .sub 3 (nth b 3) (.int .i64 1))) fun l=>ae (ai (ak T 22 k l)) fun m=>ae (ai (ah T 9 m)) fun n=>ae (ai (aw T .leq 9 e n)) fun o=>M.pure [o])) fun p=>ae (aA g false 1 (ae (ai (aM (nth i 0) (nth p 0) (.bool false))) fun q=>M.pure [q])) fun r=>ae (ai (aM g (.bool true) (nth r 0))) fun s=>ax s (M.pure (AV.bool false)) (ae (ai (aw T .add 3 (nth b 3) (.int .i64 1))) fun u=>a [nth b 0,nth b 1,nth b 2,u])) (ae (ai (aa T 46 (nth b 0) 4)) fun v=>ae (ai (ah T 22 v)) fun w=>ae (ai (aP T 22 w)) fun x=>ae (ai (aw T .leq 3 x (.int .i64 8))) fun y=>M.pure y)
def K109_0(call:CC)(fx:bm AV)(a:List AV):M AV:=ax (nth a 2) (ae (ai (aa T 46 (nth a 0) 2)) fun b=>ae (ai (ah T 9 b)) fun c=>ae (call 22 [c]) fun d=>M.pure d) (ae (ai (aw T .eql 3 (nth a 1) (.int .i64 15))) fun e=>ax e (ae (ai (aa T 46 (nth a 0) 2)) fun f=>ae (ai (ah T 9 f)) fun g=>ae (call 22 [g]) fun h=>ae (aA h true 1 (ae (ai (aa T 46 (nth a 0) 3)) fun i=>ae (ai (ah T 9 i)) fun j=>ae (ai (aw T .eql 9 j (.str []))) fun k=>M.pure [k])) fun l=>ae (aA (nth l 0) false 1 (ae (ai (aa T 46 (nth a 0) 3)) fun m=>ae (ai (ah T 9 m)) fun n=>ae (call 22 [n]) fun o=>M.pure [o])) fun p=>ae (aA h true 1 (ae (ai (aM (nth l 0) (.bool true) (nth p 0))) fun q=>M.pure [q])) fun r=>ae (ai (aM h (nth r 0) (.bool false))) fun s=>ae (aA s true 1 (ae (ai (aa T 46 (nth a 0) 5)) fun u=>ae (ai (ah T 24 u)) fun v=>ae (ai (aP T 24 v)) fun w=>ae (ai (aw T .leq 3 w (.int .i64 6))) fun x=>M.pure [x])) fun y=>ae (ai (aM s (nth y 0) (.bool false))) fun z=>M.pure z) (ae (ai (aw T .eql 3 (nth a 1) (.int .i64 13))) fun A=>ax A (ae (ai (aa T 46 (nth a 0) 4)) fun B=>ae (ai (ah T 22 B)) fun C=>ae (ai (aP T 22 C)) fun D=>fx (L109_0 call fx) [nth a 0,C,D,.int .i64 0]) (M.pure (AV.bool true))))
def XL109_0{call:CC}:bc (L109_0 call aj) fun _n=>L109_0 call aj  :=by
 intro a b c d;unfold L109_0;exact (lb fun _=>(au (by(iterate 8 refine lb fun _=>?_);exact (au (aQ.const _) (lb fun _=>c _))) (aQ.const _)))
def FL109_0(call:CC)(vs:List AV):aj (L109_0 call aj) vs=L109_0 call aj  (aj (L109_0 call aj)) vs:=aR (XL109_0) vs
def S109(call:CC)(fx:bm AV)(a0:AV):M AV:=ae (ai (aa T 46 (.ip (ab a0)) 0)) fun a=>ae (ai (ah T 3 a)) fun b=>ae (ai (aw T .eql 3 b (.int .i64 0))) fun c=>ax c (ae (ai (aa T 46 (.ip (ab a0)) 1)) fun d=>ae (ai (ah T 3 d)) fun e=>ae (ai (aw T .geq 3 e (.int .i64 0))) fun f=>ae (aA f true 1 (ae (ai (aa T 46 (.ip (ab a0)) 1)) fun g=>ae (ai (ah T 3 g)) fun h=>ae (ai (aw T .leq 3 h (.int .i64 1099511627776))) fun i=>M.pure [i])) fun j=>ae (ai (aM f (nth j 0) (.bool false))) fun k=>M.pure k) (ae (ai (aw T .eql 3 b (.int .i64 1))) fun l=>ax l (ae (ai (aa T 46 (.ip (ab a0)) 1)) fun m=>ae (ai (ah T 3 m)) fun n=>ae (ai (aw T .eql 3 n (.int .i64 0))) fun o=>ae (aA o false 1 (ae (ai (aa T 46 (.ip (ab a0)) 1)) fun p=>ae (ai (ah T 3 p)) fun q=>ae (ai (aw T .eql 3 q (.int .i64 1))) fun r=>M.pure [r])) fun s=>ae (ai (aM o (.bool true) (nth s 0))) fun u=>M.pure u) (ae (ai (aw T .eql 3 b (.int .i64 16))) fun v=>ax v (ae (ai (aa T 46 (.ip (ab a0)) 1)) fun w=>ae (ai (ah T 3 w)) fun x=>ae (ai (aw T .eql 3 x (.int .i64 1))) fun y=>ae (aA y false 1 (ae (ai (aa T 46 (.ip (ab a0)) 1)) fun z=>ae (ai (ah T 3 z)) fun A=>ae (ai (aw T .eql 3 A (.int .i64 2))) fun B=>M.pure [B])) fun C=>ae (ai (aM y (.bool true) (nth C 0))) fun D=>ae (aA D false 1 (ae (ai (aa T 46 (.ip (ab a0)) 1)) fun E=>ae (ai (ah T 3 E)) fun F=>ae (ai (aw T .eql 3 F (.int .i64 4))) fun G=>M.pure [G])) fun H=>ae (ai (aM D (.bool true) (nth H 0))) fun I=>ae (aA I false 1 (ae (ai (aa T 46 (.ip (ab a0)) 1)) fun J=>ae (ai (ah T 3 J)) fun K=>ae (ai (aw T .eql 3 K (.int .i64 8))) fun L=>M.pure [L])) fun N=>ae (ai (aM I (.bool true) (nth N 0))) fun O=>M.pure O) (jn (K109_0 call fx) fun P=>ae (ai (aw T .eql 3 b (.int .i64 2))) fun Q=>ax Q (P [.ip (ab a0),b,Q]) (ae (ai (aw T .eql 3 b (.int .i64 17))) fun R=>ax R (P [.ip (ab a0),b,R]) (ae (ai (aw T .eql 3 b (.int .i64 18))) fun S=>ax S (P [.ip (ab a0),b,S]) (ae (ai (aw T .eql 3 b (.int .i64 14))) fun U=>ax U (P [.ip (ab a0),b,U]) (ae (ai (aw T .eql 3 b (.int .i64 12))) fun V=>P [.ip (ab a0),b,V])))))))
def E109(a0:AV):EE 109 Tryz.f109 yV [a0] (fun c x=>S109 c x a0):=fun _ _=>by kernel_rfl
def C109(a0:AV):af pg 109 [a0]=aJ (S109 (af pg) aj (cl ar a0)):=(ay aI rfl rfl rfl _).trans (JU aJ (E109 (cl ar a0) _ _))
def S116(call:CC)(fx:bm AV)(a0 a1 a2:AV):M AV:=ae (ai (aa T 102 a1 0)) fun a=>ae (ai (ah T 99 a)) fun b=>ae (ai (ah T 98 (.ip (ab a0)))) fun c=>ae (ai (ah T 9 a2)) fun d=>ae (aW (kz call) b [c]) fun e=>ae (ai (aw T .eql 9 e d)) fun f=>M.pure f
def E116(a0 a1 a2:AV):EE 116 Tryz.f116 y6 [a0,a1,a2] (fun c x=>S116 c x a0 a1 a2):=fun _ _=>by kernel_rfl
def C116(a0 a1 a2:AV):af pg 116 [a0,a1,a2]=aJ (S116 (af pg) aj (cl ar a0) (cl ar a1) (cl ar a2)):=(ay aI rfl rfl rfl _).trans (JU aJ (E116 (cl ar a0) (cl ar a1) (cl ar a2) _ _))
def L121_0(call:CC)(fx:bm AV)(a:RR)(b:List AV):M AV:=ae (ai (aw T .lss 3 (nth b 3) (nth b 2))) fun c=>ax c (ae (ai (ak T 118 (nth b 0) (nth b 3))) fun d=>ae (ai (ah T 27 d)) fun e=>ae (aW call (nth b 1) [e]) fun f=>ax f (M.pure (nth b 3)) (ae (ai (aw T .add 3 (nth b 3) (.int .i64 1))) fun g=>a [nth b 0,nth b 1,nth b 2,g])) (M.pure (AV.int .i64 (-1)))
def XL121_0{call:CC}:bc (L121_0 call aj) fun _n=>L121_0 call aj  :=by
 intro a b c d;unfold L121_0;exact (lb fun _=>(au (lb fun _=>(lb fun _=>(lb fun _=>(au (aQ.const _) (lb fun _=>c _))))) (aQ.const _)))
def FL121_0(call:CC)(vs:List AV):aj (L121_0 call aj) vs=L121_0 call aj  (aj (L121_0 call aj)) vs:=aR (XL121_0) vs
def S121(call:CC)(fx:bm AV)(a0 a1:AV):M AV:=ae (ai (aP T 118 a0)) fun a=>fx (L121_0 call fx) [a0,a1,a,.int .i64 0]
def E121(a0 a1:AV):EE 121 Tryz.f121 y9 [a0,a1] (fun c x=>S121 c x a0 a1):=fun _ _=>by kernel_rfl
def C121(a0 a1:AV):af pg 121 [a0,a1]=aJ (S121 (af pg) aj (cl ar a0) (cl ar a1)):=(ay aI rfl rfl rfl _).trans (JU aJ (E121 (cl ar a0) (cl ar a1) _ _))
def S126(call:CC)(fx:bm AV)(a0 a1:AV):M AV:=ae (ai (aa T 90 (.ip (ab a0)) 0)) fun a=>ae (ai (ah T 9 a)) fun b=>ae (ai (aa T 46 a1 2)) fun c=>ae (ai (ah T 9 c)) fun d=>ae (ai (aw T .eql 9 b d)) fun e=>M.pure e
def E126(a0 a1:AV):EE 126 Tryz.f126 zd [a0,a1] (fun c x=>S126 c x a0 a1):=fun _ _=>by kernel_rfl
def C126(a0 a1:AV):af pg 126 [a0,a1]=aJ (S126 (af pg) aj (cl ar a0) (cl ar a1)):=(ay aI rfl rfl rfl _).trans (JU aJ (E126 (cl ar a0) (cl ar a1) _ _))
end
end Go.Proofs.YtblddnfanlkgiaaGreat
