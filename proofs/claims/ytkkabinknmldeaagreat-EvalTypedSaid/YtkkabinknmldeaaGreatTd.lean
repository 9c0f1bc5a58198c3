/- What the functions of the seat compute, part 4: the texts of the claim, one behind the other. Conditions: bounds, as each theorem names them. -/
import Derived.Test.YtkkabinknmldeaaGreatTc
import Derived.Shelf.SlSortCmp.NoneTotal
import Derived.Test.YtkkabinknmldeaaGreatRows
import Derived.Shelf.Vars
import Derived.ProofKit
import Derived.Deep.DeepHandedRow
import Derived.Deep.DeepWitnessRowRef
import Derived.Deep.DeepLaidRun
set_option linter.unusedSimpArgs false
set_option linter.unusedVariables false
namespace Go.Proofs.YtkkabinknmldeaaGreat
open Go Go.Av Go.Av.Ap
set_option maxRecDepth 100000
@[simp] theorem FA27_0(cs:List AV):aa T 27 (.ip cs) 0=some (.ip (cs.drop 0)):=rfl
@[simp] theorem FH27_0(l k:Nat):aa T 27 (.hp l k) 0=some (.hp l (k + 0)):=rfl
@[simp] theorem FA27_1(cs:List AV):aa T 27 (.ip cs) 1=some (.ip (cs.drop 1)):=rfl
@[simp] theorem FH27_1(l k:Nat):aa T 27 (.hp l k) 1=some (.hp l (k + 1)):=rfl
@[simp] theorem FA27_2(cs:List AV):aa T 27 (.ip cs) 2=some (.ip (cs.drop 2)):=rfl
@[simp] theorem FH27_2(l k:Nat):aa T 27 (.hp l k) 2=some (.hp l (k + 2)):=rfl
@[simp] theorem FA29_0(cs:List AV):aa T 29 (.ip cs) 0=some (.ip (cs.drop 0)):=rfl
@[simp] theorem FH29_0(l k:Nat):aa T 29 (.hp l k) 0=some (.hp l (k + 0)):=rfl
@[simp] theorem FA29_1(cs:List AV):aa T 29 (.ip cs) 1=some (.ip (cs.drop 1)):=rfl
@[simp] theorem FH29_1(l k:Nat):aa T 29 (.hp l k) 1=some (.hp l (k + 1)):=rfl
@[simp] theorem FA29_2(cs:List AV):aa T 29 (.ip cs) 2=some (.ip (cs.drop 2)):=rfl
@[simp] theorem FH29_2(l k:Nat):aa T 29 (.hp l k) 2=some (.hp l (k + 2)):=rfl
@[simp] theorem FA29_3(cs:List AV):aa T 29 (.ip cs) 3=some (.ip (cs.drop 3)):=rfl
@[simp] theorem FH29_3(l k:Nat):aa T 29 (.hp l k) 3=some (.hp l (k + 3)):=rfl
@[simp] theorem FA29_4(cs:List AV):aa T 29 (.ip cs) 4=some (.ip (cs.drop 4)):=rfl
@[simp] theorem FH29_4(l k:Nat):aa T 29 (.hp l k) 4=some (.hp l (k + 4)):=rfl
@[simp] theorem FA29_5(cs:List AV):aa T 29 (.ip cs) 5=some (.ip (cs.drop 5)):=rfl
@[simp] theorem FH29_5(l k:Nat):aa T 29 (.hp l k) 5=some (.hp l (k + 5)):=rfl
@[simp] theorem FA29_6(cs:List AV):aa T 29 (.ip cs) 6=some (.ip (cs.drop 6)):=rfl
@[simp] theorem FH29_6(l k:Nat):aa T 29 (.hp l k) 6=some (.hp l (k + 6)):=rfl
@[simp] theorem FA49_1(cs:List AV):aa T 49 (.ip cs) 1=some (.ip (cs.drop 1)):=rfl
@[simp] theorem FH49_1(l k:Nat):aa T 49 (.hp l k) 1=some (.hp l (k + 1)):=rfl
@[simp] theorem FA51_0(cs:List AV):aa T 51 (.ip cs) 0=some (.ip (cs.drop 0)):=rfl
@[simp] theorem FH51_0(l k:Nat):aa T 51 (.hp l k) 0=some (.hp l (k + 0)):=rfl
@[simp] theorem FA51_1(cs:List AV):aa T 51 (.ip cs) 1=some (.ip (cs.drop 1)):=rfl
@[simp] theorem FH51_1(l k:Nat):aa T 51 (.hp l k) 1=some (.hp l (k + 1)):=rfl
@[simp] theorem FA51_2(cs:List AV):aa T 51 (.ip cs) 2=some (.ip (cs.drop 2)):=rfl
@[simp] theorem FH51_2(l k:Nat):aa T 51 (.hp l k) 2=some (.hp l (k + 2)):=rfl
@[simp] theorem FA51_3(cs:List AV):aa T 51 (.ip cs) 3=some (.ip (cs.drop 3)):=rfl
@[simp] theorem FH51_3(l k:Nat):aa T 51 (.hp l k) 3=some (.hp l (k + 3)):=rfl
@[simp] theorem FA55_0(cs:List AV):aa T 55 (.ip cs) 0=some (.ip (cs.drop 0)):=rfl
@[simp] theorem FH55_0(l k:Nat):aa T 55 (.hp l k) 0=some (.hp l (k + 0)):=rfl
@[simp] theorem FA55_1(cs:List AV):aa T 55 (.ip cs) 1=some (.ip (cs.drop 1)):=rfl
@[simp] theorem FH55_1(l k:Nat):aa T 55 (.hp l k) 1=some (.hp l (k + 1)):=rfl
@[simp] theorem FA55_2(cs:List AV):aa T 55 (.ip cs) 2=some (.ip (cs.drop 5)):=rfl
@[simp] theorem FH55_2(l k:Nat):aa T 55 (.hp l k) 2=some (.hp l (k + 5)):=rfl
@[simp] theorem FA55_3(cs:List AV):aa T 55 (.ip cs) 3=some (.ip (cs.drop 6)):=rfl
@[simp] theorem FH55_3(l k:Nat):aa T 55 (.hp l k) 3=some (.hp l (k + 6)):=rfl
@[simp] theorem FA55_4(cs:List AV):aa T 55 (.ip cs) 4=some (.ip (cs.drop 7)):=rfl
@[simp] theorem FH55_4(l k:Nat):aa T 55 (.hp l k) 4=some (.hp l (k + 7)):=rfl
@[simp] theorem FA60_0(cs:List AV):aa T 60 (.ip cs) 0=some (.ip (cs.drop 0)):=rfl
@[simp] theorem FH60_0(l k:Nat):aa T 60 (.hp l k) 0=some (.hp l (k + 0)):=rfl
@[simp] theorem FA62_0(cs:List AV):aa T 62 (.ip cs) 0=some (.ip (cs.drop 0)):=rfl
@[simp] theorem FH62_0(l k:Nat):aa T 62 (.hp l k) 0=some (.hp l (k + 0)):=rfl
@[simp] theorem FA62_1(cs:List AV):aa T 62 (.ip cs) 1=some (.ip (cs.drop 1)):=rfl
@[simp] theorem FH62_1(l k:Nat):aa T 62 (.hp l k) 1=some (.hp l (k + 1)):=rfl
@[simp] theorem FA69_0(cs:List AV):aa T 69 (.ip cs) 0=some (.ip (cs.drop 0)):=rfl
@[simp] theorem FH69_0(l k:Nat):aa T 69 (.hp l k) 0=some (.hp l (k + 0)):=rfl
@[simp] theorem FA69_1(cs:List AV):aa T 69 (.ip cs) 1=some (.ip (cs.drop 1)):=rfl
@[simp] theorem FH69_1(l k:Nat):aa T 69 (.hp l k) 1=some (.hp l (k + 1)):=rfl
@[simp] theorem FA72_0(cs:List AV):aa T 72 (.ip cs) 0=some (.ip (cs.drop 0)):=rfl
@[simp] theorem FH72_0(l k:Nat):aa T 72 (.hp l k) 0=some (.hp l (k + 0)):=rfl
@[simp] theorem FA72_1(cs:List AV):aa T 72 (.ip cs) 1=some (.ip (cs.drop 1)):=rfl
@[simp] theorem FH72_1(l k:Nat):aa T 72 (.hp l k) 1=some (.hp l (k + 1)):=rfl
@[simp] theorem FA74_0(cs:List AV):aa T 74 (.ip cs) 0=some (.ip (cs.drop 0)):=rfl
@[simp] theorem FH74_0(l k:Nat):aa T 74 (.hp l k) 0=some (.hp l (k + 0)):=rfl
@[simp] theorem FA74_1(cs:List AV):aa T 74 (.ip cs) 1=some (.ip (cs.drop 1)):=rfl
@[simp] theorem FH74_1(l k:Nat):aa T 74 (.hp l k) 1=some (.hp l (k + 1)):=rfl
@[simp] theorem FA74_2(cs:List AV):aa T 74 (.ip cs) 2=some (.ip (cs.drop 2)):=rfl
@[simp] theorem FH74_2(l k:Nat):aa T 74 (.hp l k) 2=some (.hp l (k + 2)):=rfl
@[simp] theorem FA74_3(cs:List AV):aa T 74 (.ip cs) 3=some (.ip (cs.drop 3)):=rfl
@[simp] theorem FH74_3(l k:Nat):aa T 74 (.hp l k) 3=some (.hp l (k + 3)):=rfl
@[simp] theorem FA74_4(cs:List AV):aa T 74 (.ip cs) 4=some (.ip (cs.drop 4)):=rfl
@[simp] theorem FH74_4(l k:Nat):aa T 74 (.hp l k) 4=some (.hp l (k + 4)):=rfl
@[simp] theorem FA74_5(cs:List AV):aa T 74 (.ip cs) 5=some (.ip (cs.drop 5)):=rfl
@[simp] theorem FH74_5(l k:Nat):aa T 74 (.hp l k) 5=some (.hp l (k + 5)):=rfl
@[simp] theorem FA76_0(cs:List AV):aa T 76 (.ip cs) 0=some (.ip (cs.drop 0)):=rfl
@[simp] theorem FH76_0(l k:Nat):aa T 76 (.hp l k) 0=some (.hp l (k + 0)):=rfl
@[simp] theorem FA76_1(cs:List AV):aa T 76 (.ip cs) 1=some (.ip (cs.drop 1)):=rfl
@[simp] theorem FH76_1(l k:Nat):aa T 76 (.hp l k) 1=some (.hp l (k + 1)):=rfl
@[simp] theorem FA76_2(cs:List AV):aa T 76 (.ip cs) 2=some (.ip (cs.drop 2)):=rfl
@[simp] theorem FH76_2(l k:Nat):aa T 76 (.hp l k) 2=some (.hp l (k + 2)):=rfl
@[simp] theorem FA76_3(cs:List AV):aa T 76 (.ip cs) 3=some (.ip (cs.drop 3)):=rfl
@[simp] theorem FH76_3(l k:Nat):aa T 76 (.hp l k) 3=some (.hp l (k + 3)):=rfl
@[simp] theorem FA76_4(cs:List AV):aa T 76 (.ip cs) 4=some (.ip (cs.drop 5)):=rfl
@[simp] theorem FH76_4(l k:Nat):aa T 76 (.hp l k) 4=some (.hp l (k + 5)):=rfl
@[simp] theorem FA76_5(cs:List AV):aa T 76 (.ip cs) 5=some (.ip (cs.drop 6)):=rfl
@[simp] theorem FH76_5(l k:Nat):aa T 76 (.hp l k) 5=some (.hp l (k + 6)):=rfl
@[simp] theorem FA87_0(cs:List AV):aa T 87 (.ip cs) 0=some (.ip (cs.drop 0)):=rfl
@[simp] theorem FH87_0(l k:Nat):aa T 87 (.hp l k) 0=some (.hp l (k + 0)):=rfl
@[simp] theorem FA87_1(cs:List AV):aa T 87 (.ip cs) 1=some (.ip (cs.drop 1)):=rfl
@[simp] theorem FH87_1(l k:Nat):aa T 87 (.hp l k) 1=some (.hp l (k + 1)):=rfl
@[simp] theorem FA120_0(cs:List AV):aa T 120 (.ip cs) 0=some (.ip (cs.drop 0)):=rfl
@[simp] theorem FH120_0(l k:Nat):aa T 120 (.hp l k) 0=some (.hp l (k + 0)):=rfl
@[simp] theorem FA120_1(cs:List AV):aa T 120 (.ip cs) 1=some (.ip (cs.drop 9)):=rfl
@[simp] theorem FH120_1(l k:Nat):aa T 120 (.hp l k) 1=some (.hp l (k + 9)):=rfl
@[simp] theorem FA120_2(cs:List AV):aa T 120 (.ip cs) 2=some (.ip (cs.drop 10)):=rfl
@[simp] theorem FH120_2(l k:Nat):aa T 120 (.hp l k) 2=some (.hp l (k + 10)):=rfl
@[simp] theorem FA150_0(cs:List AV):aa T 150 (.ip cs) 0=some (.ip (cs.drop 0)):=rfl
@[simp] theorem FH150_0(l k:Nat):aa T 150 (.hp l k) 0=some (.hp l (k + 0)):=rfl
@[simp] theorem FA150_1(cs:List AV):aa T 150 (.ip cs) 1=some (.ip (cs.drop 1)):=rfl
@[simp] theorem FH150_1(l k:Nat):aa T 150 (.hp l k) 1=some (.hp l (k + 1)):=rfl
@[simp] theorem FA150_2(cs:List AV):aa T 150 (.ip cs) 2=some (.ip (cs.drop 2)):=rfl
@[simp] theorem FH150_2(l k:Nat):aa T 150 (.hp l k) 2=some (.hp l (k + 2)):=rfl
@[simp] theorem FA150_3(cs:List AV):aa T 150 (.ip cs) 3=some (.ip (cs.drop 4)):=rfl
@[simp] theorem FH150_3(l k:Nat):aa T 150 (.hp l k) 3=some (.hp l (k + 4)):=rfl
@[simp] theorem FA240_0(cs:List AV):aa T 240 (.ip cs) 0=some (.ip (cs.drop 0)):=rfl
@[simp] theorem FH240_0(l k:Nat):aa T 240 (.hp l k) 0=some (.hp l (k + 0)):=rfl
@[simp] theorem FA240_1(cs:List AV):aa T 240 (.ip cs) 1=some (.ip (cs.drop 1)):=rfl
@[simp] theorem FH240_1(l k:Nat):aa T 240 (.hp l k) 1=some (.hp l (k + 1)):=rfl
@[simp] theorem FA240_2(cs:List AV):aa T 240 (.ip cs) 2=some (.ip (cs.drop 2)):=rfl
@[simp] theorem FH240_2(l k:Nat):aa T 240 (.hp l k) 2=some (.hp l (k + 2)):=rfl
@[simp] theorem FA240_3(cs:List AV):aa T 240 (.ip cs) 3=some (.ip (cs.drop 3)):=rfl
@[simp] theorem FH240_3(l k:Nat):aa T 240 (.hp l k) 3=some (.hp l (k + 3)):=rfl
@[simp] theorem FA240_4(cs:List AV):aa T 240 (.ip cs) 4=some (.ip (cs.drop 4)):=rfl
@[simp] theorem FH240_4(l k:Nat):aa T 240 (.hp l k) 4=some (.hp l (k + 4)):=rfl
@[simp] theorem FA269_0(cs:List AV):aa T 269 (.ip cs) 0=some (.ip (cs.drop 0)):=rfl
@[simp] theorem FH269_0(l k:Nat):aa T 269 (.hp l k) 0=some (.hp l (k + 0)):=rfl
@[simp] theorem FA269_1(cs:List AV):aa T 269 (.ip cs) 1=some (.ip (cs.drop 1)):=rfl
@[simp] theorem FH269_1(l k:Nat):aa T 269 (.hp l k) 1=some (.hp l (k + 1)):=rfl
@[simp] theorem FA269_2(cs:List AV):aa T 269 (.ip cs) 2=some (.ip (cs.drop 2)):=rfl
@[simp] theorem FH269_2(l k:Nat):aa T 269 (.hp l k) 2=some (.hp l (k + 2)):=rfl
@[simp] theorem LD3(x:AV)(l:List AV):ah T 3 (.ip (x:: l))=some x:=rfl
@[simp] theorem LD4(x:AV)(l:List AV):ah T 4 (.ip (x:: l))=some x:=rfl
@[simp] theorem LD9(x:AV)(l:List AV):ah T 9 (.ip (x:: l))=some x:=rfl
@[simp] theorem LD22(x:AV)(l:List AV):ah T 22 (.ip (x:: l))=some x:=rfl
@[simp] theorem LD23(x:AV)(l:List AV):ah T 23 (.ip (x:: l))=some x:=rfl
@[simp] theorem LD24(x:AV)(l:List AV):ah T 24 (.ip (x:: l))=some x:=rfl
@[simp] theorem LD25(x:AV)(l:List AV):ah T 25 (.ip (x:: l))=some x:=rfl
@[simp] theorem LD29(cs:List AV):ah T 29 (.ip cs)=if 9≤cs.length then some (.agg (cs.take 9)) else none:=rfl
@[simp] theorem LD33(x:AV)(l:List AV):ah T 33 (.ip (x:: l))=some x:=rfl
@[simp] theorem LD42(x:AV)(l:List AV):ah T 42 (.ip (x:: l))=some x:=rfl
@[simp] theorem LD43(x:AV)(l:List AV):ah T 43 (.ip (x:: l))=some x:=rfl
@[simp] theorem LD44(x:AV)(l:List AV):ah T 44 (.ip (x:: l))=some x:=rfl
@[simp] theorem LD47(x:AV)(l:List AV):ah T 47 (.ip (x:: l))=some x:=rfl
@[simp] theorem LD51(cs:List AV):ah T 51 (.ip cs)=if 4≤cs.length then some (.agg (cs.take 4)) else none:=rfl
@[simp] theorem LD52(x:AV)(l:List AV):ah T 52 (.ip (x:: l))=some x:=rfl
@[simp] theorem LD53(x:AV)(l:List AV):ah T 53 (.ip (x:: l))=some x:=rfl
@[simp] theorem LD55(cs:List AV):ah T 55 (.ip cs)=if 8≤cs.length then some (.agg (cs.take 8)) else none:=rfl
@[simp] theorem LD60(cs:List AV):ah T 60 (.ip cs)=if 3≤cs.length then some (.agg (cs.take 3)) else none:=rfl
@[simp] theorem LD62(cs:List AV):ah T 62 (.ip cs)=if 2≤cs.length then some (.agg (cs.take 2)) else none:=rfl
@[simp] theorem LD67(x:AV)(l:List AV):ah T 67 (.ip (x:: l))=some x:=rfl
@[simp] theorem LD69(cs:List AV):ah T 69 (.ip cs)=if 2≤cs.length then some (.agg (cs.take 2)) else none:=rfl
@[simp] theorem LD72(cs:List AV):ah T 72 (.ip cs)=if 2≤cs.length then some (.agg (cs.take 2)) else none:=rfl
@[simp] theorem LD74(cs:List AV):ah T 74 (.ip cs)=if 6≤cs.length then some (.agg (cs.take 6)) else none:=rfl
@[simp] theorem LD76(cs:List AV):ah T 76 (.ip cs)=if 12≤cs.length then some (.agg (cs.take 12)) else none:=rfl
@[simp] theorem LD87(cs:List AV):ah T 87 (.ip cs)=if 3≤cs.length then some (.agg (cs.take 3)) else none:=rfl
@[simp] theorem LD118(x:AV)(l:List AV):ah T 118 (.ip (x:: l))=some x:=rfl
@[simp] theorem LD148(x:AV)(l:List AV):ah T 148 (.ip (x:: l))=some x:=rfl
@[simp] theorem LD150(cs:List AV):ah T 150 (.ip cs)=if 5≤cs.length then some (.agg (cs.take 5)) else none:=rfl
@[simp] theorem LD238(x:AV)(l:List AV):ah T 238 (.ip (x:: l))=some x:=rfl
@[simp] theorem LD269(cs:List AV):ah T 269 (.ip cs)=if 3≤cs.length then some (.agg (cs.take 3)) else none:=rfl
@[simp] theorem MA(s:aU):aF T 9 (.str s)=some (.int .i64 s.length):=rfl
@[simp] theorem KT(es:List AV):aF T 22 (.sl es)=some (.int .i64 es.length):=rfl
@[simp] theorem MQ:aF T 22 .hn=some (.int .i64 0):=rfl
@[simp] theorem ME(l k n s:Nat)(a:Bool):aF T 22 (.hs l k n s a)=some (.int .i64 n):=rfl
@[simp] theorem qu(l:List aU):aF T 22 (strs l)=some (.int .i64 l.length):=(KT _).trans (by simp)
@[simp] theorem Ik(es:List AV):aF T 23 (.sl es)=some (.int .i64 es.length):=rfl
@[simp] theorem MR:aF T 23 .hn=some (.int .i64 0):=rfl
@[simp] theorem Jq(l k n s:Nat)(a:Bool):aF T 23 (.hs l k n s a)=some (.int .i64 n):=rfl
@[simp] theorem qv(l:List bP):aF T 23 (aK l)=some (.int .i64 l.length):=(Ik _).trans (by simp[cS])
@[simp] theorem KU(es:List AV):aF T 24 (.sl es)=some (.int .i64 es.length):=rfl
@[simp] theorem MS:aF T 24 .hn=some (.int .i64 0):=rfl
@[simp] theorem MF(l k n s:Nat)(a:Bool):aF T 24 (.hs l k n s a)=some (.int .i64 n):=rfl
@[simp] theorem ul(l:List Exp):aF T 24 (cb l)=some (.int .i64 l.length):=(KU _).trans (by simp[eV])
@[simp] theorem KV(es:List AV):aF T 25 (.sl es)=some (.int .i64 es.length):=rfl
@[simp] theorem MU:aF T 25 .hn=some (.int .i64 0):=rfl
@[simp] theorem MG(l k n s:Nat)(a:Bool):aF T 25 (.hs l k n s a)=some (.int .i64 n):=rfl
@[simp] theorem Jm(l:List Fun):aF T 25 (eW l)=some (.int .i64 l.length):=(KV _).trans (by simp)
@[simp] theorem KW(es:List AV):aF T 30 (.sl es)=some (.int .i64 es.length):=rfl
@[simp] theorem MV:aF T 30 .hn=some (.int .i64 0):=rfl
@[simp] theorem MH(l k n s:Nat)(a:Bool):aF T 30 (.hs l k n s a)=some (.int .i64 n):=rfl
@[simp] theorem Jn(l:List Face):aF T 30 (faces l)=some (.int .i64 l.length):=(KW _).trans (by simp)
@[simp] theorem KX(es:List AV):aF T 42 (.sl es)=some (.int .i64 es.length):=rfl
@[simp] theorem MW:aF T 42 .hn=some (.int .i64 0):=rfl
@[simp] theorem MI(l k n s:Nat)(a:Bool):aF T 42 (.hs l k n s a)=some (.int .i64 n):=rfl
@[simp] theorem yC(l:List Mod):aF T 42 (cw l)=some (.int .i64 l.length):=(KX _).trans (by simp)
@[simp] theorem KY(es:List AV):aF T 43 (.sl es)=some (.int .i64 es.length):=rfl
@[simp] theorem MX:aF T 43 .hn=some (.int .i64 0):=rfl
@[simp] theorem MJ(l k n s:Nat)(a:Bool):aF T 43 (.hs l k n s a)=some (.int .i64 n):=rfl
@[simp] theorem MB(l:List Ap.Call):aF T 43 (Ap.calls l)=some (.int .i64 l.length):=(KY _).trans (by simp)
@[simp] theorem KZ(es:List AV):aF T 44 (.sl es)=some (.int .i64 es.length):=rfl
@[simp] theorem MY:aF T 44 .hn=some (.int .i64 0):=rfl
@[simp] theorem ML(l k n s:Nat)(a:Bool):aF T 44 (.hs l k n s a)=some (.int .i64 n):=rfl
@[simp] theorem Jo(l:List Int):aF T 44 (ints l)=some (.int .i64 l.length):=(KZ _).trans (by simp)
@[simp] theorem K3(es:List AV):aF T 47 (.sl es)=some (.int .i64 es.length):=rfl
@[simp] theorem MZ:aF T 47 .hn=some (.int .i64 0):=rfl
@[simp] theorem MM(l k n s:Nat)(a:Bool):aF T 47 (.hs l k n s a)=some (.int .i64 n):=rfl
@[simp] theorem yD(l:List Val):aF T 47 (vals l)=some (.int .i64 l.length):=(K3 _).trans (by simp[cI])
@[simp] theorem K4(es:List AV):aF T 52 (.sl es)=some (.int .i64 es.length):=rfl
@[simp] theorem M0:aF T 52 .hn=some (.int .i64 0):=rfl
@[simp] theorem MN(l k n s:Nat)(a:Bool):aF T 52 (.hs l k n s a)=some (.int .i64 n):=rfl
@[simp] theorem MC(l:List Deed):aF T 52 (deeds l)=some (.int .i64 l.length):=(K4 _).trans (by simp)
@[simp] theorem K5(es:List AV):aF T 53 (.sl es)=some (.int .i64 es.length):=rfl
@[simp] theorem M1:aF T 53 .hn=some (.int .i64 0):=rfl
@[simp] theorem MO(l k n s:Nat)(a:Bool):aF T 53 (.hs l k n s a)=some (.int .i64 n):=rfl
@[simp] theorem Jp(l:List Vars):aF T 53 (cD l)=some (.int .i64 l.length):=(K5 _).trans (by simp)
@[simp] theorem K6(es:List AV):aF T 67 (.sl es)=some (.int .i64 es.length):=rfl
@[simp] theorem M2:aF T 67 .hn=some (.int .i64 0):=rfl
@[simp] theorem MP(l k n s:Nat)(a:Bool):aF T 67 (.hs l k n s a)=some (.int .i64 n):=rfl
@[simp] theorem MD(l:List Sig):aF T 67 (sigs l)=some (.int .i64 l.length):=(K6 _).trans (by simp)
@[simp] theorem Jl(es:List AV):aF T 148 (.sl es)=some (.int .i64 es.length):=rfl
@[simp] theorem Mk:aF T 148 .hn=some (.int .i64 0):=rfl
@[simp] theorem Mj(l k n s:Nat)(a:Bool):aF T 148 (.hs l k n s a)=some (.int .i64 n):=rfl
@[simp] theorem Mi(l:List Ty):aF T 148 (ib l)=some (.int .i64 l.length):=(Jl _).trans (by simp)
theorem sD{l:List aU}{n:Int}(h0:0≤n)(h:n < (l.length:Int)):ak T 22 (strs l) (.int .i64 n)=some (.ip (ab (AV.str l[n.toNat]!))):=bW (T:=T) (t:=22) (e:=9) rfl rfl rfl (fun _=>by first | rfl | (simp;done) | (simp;rfl)) h0 h
theorem mD{l:List bP}{n:Int}(h0:0≤n)(h:n < (l.length:Int)):ak T 23 (aK l) (.int .i64 n)=some (.ip (ab (bF l[n.toNat]!))):=by rw[aK,cS];exact bW (T:=T) (t:=23) (e:=87) rfl rfl rfl (fun _=>by first | rfl | (simp;done) | (simp;rfl)) h0 h
theorem lj{l:List Exp}{n:Int}(h0:0≤n)(h:n < (l.length:Int)):ak T 24 (cb l) (.int .i64 n)=some (.ip (ab (Exp.av l[n.toNat]!))):=by rw[cb,eV];exact bW (T:=T) (t:=24) (e:=74) rfl rfl rfl (fun _=>by first | rfl | (simp;done) | (simp;rfl)) h0 h
theorem sE{l:List Fun}{n:Int}(h0:0≤n)(h:n < (l.length:Int)):ak T 25 (eW l) (.int .i64 n)=some (.ip (ab (Fun.av l[n.toNat]!))):=bW (T:=T) (t:=25) (e:=76) rfl rfl rfl (fun _=>by first | rfl | (simp;done) | (simp;rfl)) h0 h
theorem Mx{l:List Face}{n:Int}(h0:0≤n)(h:n < (l.length:Int)):ak T 30 (faces l) (.int .i64 n)=some (.ip (ab (Face.av l[n.toNat]!))):=bW (T:=T) (t:=30) (e:=69) rfl rfl rfl (fun _=>by first | rfl | (simp;done) | (simp;rfl)) h0 h
theorem lr{l:List Mod}{n:Int}(h0:0≤n)(h:n < (l.length:Int)):ak T 42 (cw l) (.int .i64 n)=some (.ip (ab (Mod.av l[n.toNat]!))):=bW (T:=T) (t:=42) (e:=29) rfl rfl rfl (fun _=>by first | rfl | (simp;done) | (simp;rfl)) h0 h
theorem My{l:List Int}{n:Int}(h0:0≤n)(h:n < (l.length:Int)):ak T 44 (ints l) (.int .i64 n)=some (.ip (ab (AV.int .i64 l[n.toNat]!))):=bW (T:=T) (t:=44) (e:=3) rfl rfl rfl (fun _=>by first | rfl | (simp;done) | (simp;rfl)) h0 h
theorem qq{l:List Val}{n:Int}(h0:0≤n)(h:n < (l.length:Int)):ak T 47 (vals l) (.int .i64 n)=some (.ip (ab (Val.av l[n.toNat]!))):=by rw[vals,cI];exact bW (T:=T) (t:=47) (e:=51) rfl rfl rfl (fun _=>by first | rfl | (simp;done) | (simp;rfl)) h0 h
theorem Mz{l:List Deed}{n:Int}(h0:0≤n)(h:n < (l.length:Int)):ak T 52 (deeds l) (.int .i64 n)=some (.ip (ab (Deed.av l[n.toNat]!))):=bW (T:=T) (t:=52) (e:=60) rfl rfl rfl (fun _=>by first | rfl | (simp;done) | (simp;rfl)) h0 h
theorem GT{l:List Vars}{n:Int}(h0:0≤n)(h:n < (l.length:Int)):ak T 53 (cD l) (.int .i64 n)=some (.ip (ab (Vars.av l[n.toNat]!))):=bW (T:=T) (t:=53) (e:=62) rfl rfl rfl (fun _=>by first | rfl | (simp;done) | (simp;rfl)) h0 h
theorem Jj{l:List Sig}{n:Int}(h0:0≤n)(h:n < (l.length:Int)):ak T 67 (sigs l) (.int .i64 n)=some (.ip (ab (Sig.av l[n.toNat]!))):=bW (T:=T) (t:=67) (e:=150) rfl rfl rfl (fun _=>by first | rfl | (simp;done) | (simp;rfl)) h0 h
theorem pd{l:List Ty}{n:Int}(h0:0≤n)(h:n < (l.length:Int)):ak T 148 (ib l) (.int .i64 n)=some (.ip (ab (Ty.av l[n.toNat]!))):=bW (T:=T) (t:=148) (e:=72) rfl rfl rfl (fun _=>by first | rfl | (simp;done) | (simp;rfl)) h0 h
theorem KP{a b:List aU}(h:(a.length + b.length) * 16≤140737488355328):cP T 22 (strs a) (strs b)=some (strs (a++b)):=by
 have:=i7 (T:=T) (t:=22) (e:=9) rfl rfl rfl (f:=AV.str) (fun _=>by first | rfl | (simp;done) | (simp;rfl)) (a:=a) (b:=b) h (by decide)
 simpa [strs] using this
theorem Jg{a b:List bP}(h:(a.length + b.length) * 48≤140737488355328):cP T 23 (aK a) (aK b)=some (aK (a++b)):=by
 have:=i7 (T:=T) (t:=23) (e:=87) rfl rfl rfl (f:=bF) (fun _=>by first | rfl | (simp;done) | (simp;rfl)) (a:=a) (b:=b) h (by decide)
 simpa [aK,cS] using this
theorem KQ{a b:List Exp}(h:(a.length + b.length) * 96≤140737488355328):cP T 24 (cb a) (cb b)=some (cb (a++b)):=by
 have:=i7 (T:=T) (t:=24) (e:=74) rfl rfl rfl (f:=Exp.av) (fun _=>by first | rfl | (simp;done) | (simp;rfl)) (a:=a) (b:=b) h (by decide)
 simpa [cb,eV] using this
theorem Mu{a b:List Face}(h:(a.length + b.length) * 40≤140737488355328):cP T 30 (faces a) (faces b)=some (faces (a++b)):=by
 have:=i7 (T:=T) (t:=30) (e:=69) rfl rfl rfl (f:=Face.av) (fun _=>by first | rfl | (simp;done) | (simp;rfl)) (a:=a) (b:=b) h (by decide)
 simpa [faces] using this
theorem GQ{a b:List Val}(h:(a.length + b.length) * 64≤140737488355328):cP T 47 (vals a) (vals b)=some (vals (a++b)):=by
 have:=i7 (T:=T) (t:=47) (e:=51) rfl rfl rfl (f:=Val.av) (fun _=>by first | rfl | (simp;done) | (simp;rfl)) (a:=a) (b:=b) h (by decide)
 simpa [vals,cI] using this
theorem Mv{a b:List Vars}(h:(a.length + b.length) * 40≤140737488355328):cP T 53 (cD a) (cD b)=some (cD (a++b)):=by
 have:=i7 (T:=T) (t:=53) (e:=62) rfl rfl rfl (f:=Vars.av) (fun _=>by first | rfl | (simp;done) | (simp;rfl)) (a:=a) (b:=b) h (by decide)
 simpa [cD] using this
theorem CZ{a b:List Ty}(h:(a.length + b.length) * 32≤140737488355328):cP T 148 (ib a) (ib b)=some (ib (a++b)):=by
 have:=i7 (T:=T) (t:=148) (e:=72) rfl rfl rfl (f:=Ty.av) (fun _=>by first | rfl | (simp;done) | (simp;rfl)) (a:=a) (b:=b) h (by decide)
 simpa [ib] using this
end Go.Proofs.YtkkabinknmldeaaGreat
namespace Go.Proofs.YtkkabinknmldeaaGreat.D
open Go Go.Av Go.Av.Ap
set_option maxRecDepth 100000
noncomputable def pg:Pg:={ T:=T,funcs:=tv og,own:=own,other:=fun _=>none }
theorem hOther:dK pg:=fun f E h=>by cases h
theorem E184(call:FuncId→List AV→M AV)(fx:bB AV)(a0:AV):ci (pg.cx call Tryz.f184.ntmps yF) fx Tryz.f184 (own 184) [a0]=S184 call fx a0:=by kernel_rfl
theorem C184(a0:AV):ai pg 184 [a0]=aE (S184 (ai pg) aj (cl aw a0)):=(ay hOther rfl rfl rfl _).trans (congrArg aE (E184 _ _ (cl aw a0)))
theorem E84(call:FuncId→List AV→M AV)(fx:bB AV)(a0 a1:AV):ci (pg.cx call Tryz.f84.ntmps EA) fx Tryz.f84 (own 84) [a0,a1]=S84 call fx a0 a1:=by kernel_rfl
theorem C84(a0 a1:AV):ai pg 84 [a0,a1]=aE (S84 (ai pg) aj (cl aw a0) (cl aw a1)):=(ay hOther rfl rfl rfl _).trans (congrArg aE (E84 _ _ (cl aw a0) (cl aw a1)))
theorem E83(call:FuncId→List AV→M AV)(fx:bB AV)(a0 a1:AV):ci (pg.cx call Tryz.f83.ntmps Ez) fx Tryz.f83 (own 83) [a0,a1]=S83 call fx a0 a1:=by kernel_rfl
theorem C83(a0 a1:AV):ai pg 83 [a0,a1]=aE (S83 (ai pg) aj (cl aw a0) (cl aw a1)):=(ay hOther rfl rfl rfl _).trans (congrArg aE (E83 _ _ (cl aw a0) (cl aw a1)))
@[simp] theorem Mr(t:Nat)(a b:aU):am T .gtr t (.str a) (.str b)=some (.bool !(aT a b||a== b)):=rfl
theorem t184(s:aU):ai pg 184 [.str s]=M.pure (.bool false):=by
 rw[C184]
 have e:am T .neq 9 (.str s) (.str s)=some (.bool !(s== s)):=rfl
 simp[S184,e]
theorem t84(a b:aU):ai pg 84 [.str a,.str b]=M.pure (.int .i64 (yY a b)):=by
 rw[C84]
 unfold yY
 cases h1:aT a b with
 | true=>simp[S84,t184,h1]
 | false=>
  by_cases h2:a=b
  ·subst h2
   simp[S84,t184,dC]
  ·have h3:=fG a b h1 h2
   have h4:(a== b)=false:=beq_eq_false_iff_ne.2 h2
   simp[S84,t184,h1,h3,h2]
theorem t83(a b:aU)(x1 x2 x3 x4 y1 y2 y3 y4:AV):ai pg 83 [.agg [.str a,x1,x2,x3,x4],.agg [.str b,y1,y2,y3,y4]]=M.pure (.int .i64 (yY a b)):=by
 rw[C83]
 have f0:∀ cs,aa T 150 (.ip cs) 0=some (.ip (cs.drop 0)):=fun cs=>rfl
 have l0:∀(s:aU)(cs:List AV),ah T 9 (.ip (.str s:: cs))=some (.str s):=fun s cs=>rfl
 simp[S83,cl,dL,ab,f0,l0,t84]
theorem good:@GoodPg ⟨True⟩ Tryz.prog pg:=by
 letI:Dr:=⟨True⟩
 exact⟨tok,wZ,(fun f E h=>by cases h),(fun f h=>by cases h)⟩
end Go.Proofs.YtkkabinknmldeaaGreat.D
namespace Go.Proofs.YtkkabinknmldeaaGreat
open Go Go.Av Go.Av.Ap Go.RowKit Go.Sort
set_option maxRecDepth 1000000
theorem Nt(keys:List aU)(n:Nat):SWO (ltOf (GO keys n)):=by
 have h:∀ i j,ltOf (GO keys n) i j=aT keys[i % n]! keys[j % n]!:=fun i j=>by
  unfold ltOf GO yY
  cases h1:aT keys[i % n]! keys[j % n]! with
  | true=>simp
  | false=>
   cases h2:aT keys[j % n]! keys[i % n]! <;> simp
 refine⟨fun x=>?_,fun x y z=>?_,fun x y z=>?_⟩
 ·rw[h,dC]
 ·rw[h,h,h]
  exact dY _ _ _
 ·rw[h,h,h]
  intro h1 h2
  cases h3:aT keys[x % n]! keys[z % n]! with
  | false=>rfl
  | true=>
   exfalso
   by_cases e:keys[x % n]! = keys[y % n]!
   ·rw[e,h2] at h3
    cases h3
   ·have:=dY _ _ _ (fG _ _ h1 e) h3
    rw[this] at h2
    cases h2
theorem Cf{ev:Nat→List Value}{k:Nat}{w:World}(hg:GOKw w){blk off n:Nat}{d:Array Nat}{os:Array Obj}(hb:gN≤blk):GOKw (sortWorldK ev k w blk off n d os):=
 hg.mono fun b hlt=>r9 ev k off n d os (Nat.lt_of_lt_of_le hlt hg.lt) (by omega)
theorem E0:∀ args w,(callFunc 83 args).run Tryz.prog w= .ok (.enter 83 args) w:=enters_of Tryz.func83 (by kernel_rfl) rfl
theorem Lm(a b:aU)(u v:List Value)(hu:∃(x:ByteArray)(r:List Value),u= .string x:: r∧x.data.toList=a)(hv:∃(x:ByteArray)(r:List Value),v= .string x:: r∧x.data.toList=b)(lu:u.length=5)(lv:v.length=5)(W:World)(hg:GOKw W):
  Calls Tryz.prog 83 #[.agg u.toArray,.agg v.toArray] W fun e w'=>e= .returned (.int .i64 (yY a b))∧∃ q os',w'=grow (W.drewN q) os':=by
 letI:Dr:=⟨True⟩
 have hs:∀(s:aU)(u:List Value),(∃(x:ByteArray)(r:List Value),u= .string x:: r∧x.data.toList=s)→u.length=5→VR (ll W) [] (.agg [.str s,.any,.any,.any,.any]) (.agg u.toArray):=by
  rintro s u ⟨x,r,rfl,hx⟩ hl
  obtain⟨r1,r2,r3,r4,rfl⟩:∃ r1 r2 r3 r4,r=[r1,r2,r3,r4]:=by
   match r,hl with
   | [r1,r2,r3,r4],_=>exact⟨r1,r2,r3,r4,rfl⟩
  simp only[VR]
  refine⟨_,rfl,?_⟩
  simp only[bj,VR]
  exact⟨_,_,rfl,⟨x,rfl,hx⟩,_,_,rfl,trivial,_,_,rfl,trivial,_,_,rfl,trivial,_,_,rfl,trivial,rfl⟩
 have hv2:bj (ll W) [] [.agg [.str a,.any,.any,.any,.any],.agg [.str b,.any,.any,.any,.any]] [.agg u.toArray,.agg v.toArray]:=by
  simp only[bj]
  exact⟨_,_,rfl,hs a u hu lu,_,_,rfl,hs b v hv lv,rfl⟩
 have h:=(lD D.good D.hOther 83 [.agg [.str a,.any,.any,.any,.any],.agg [.str b,.any,.any,.any,.any]] [] (ll W) [] W _ (by rw[D.t83];simp[M.pure]) ⟨hg,fun b _ ho=>by obtain⟨l,_,_,h1,_⟩:=ho;simp at h1⟩ (fun _ _ _ h=>h) ⟨rfl,fun _=>.no,fun l cs hl=>by simp at hl⟩ hv2).1
 rw[D.t83] at h
 refine h.mono fun e w' hp=>?_
 obtain⟨S',β',v,rfl,hv,L,_⟩:=hp
 simp only[VR] at hv
 subst hv
 exact⟨rfl,L.grew trivial⟩
theorem Jv:∀ w,(isAgg 150).run Tryz.prog w= .ok true w:=fun w=>by kernel_rfl
theorem H8:∀ w,(Go.sizeOf 150).run Tryz.prog w= .ok 5 w:=fun w=>by kernel_rfl
theorem xZ(w:World)(blk off cap:Nat)(keys:List aU)(ev:Nat→List Value)(_h0:0 < keys.length)(hl:∀ i,(ev i).length=5) (h1:∀ i,∀ v∈ev i,v.oneCell'=true)
  (hk:∀ i,∃(x:ByteArray)(r:List Value),ev i= .string x:: r∧x.data.toList=keys[i % keys.length]!) (hg:GOKw w) (hb:gN≤blk) (hH:HoldsK ev 5 w blk off (Array.range keys.length)) (hlt:blk < w.heap.size) (hsz:keys.length < 4611686018427387904):
  Calls Tryz.prog 82 #[.slice (some ⟨blk,off,none⟩) keys.length cap,.func (.func 83) #[] #[]] w fun e w'=>e= .returned (.tuple #[])∧∃ n os,w'=sortWorldK ev 5 w blk off n (fV keys).toArray os:=by
 have:=AnyQ.slices_SortFunc_eq Tryz.laysSortS 5 Jv H8 ev hl h1 (GO keys keys.length) (Nt keys keys.length) 83 #[] blk off cap (Array.range keys.length) w E0
  (fun m os dk _ x y=>Lm _ _ _ _ (hk x) (hk y) (hl x) (hl y) _ (Cf hg hb)) hH hlt (by simpa using hsz)
 rw[Array.size_range] at this
 refine this.mono ?_
 rintro e w' ⟨he,n,os,hw⟩
 refine⟨he,n,os,?_⟩
 rw[hw]
 unfold fV
 simp
theorem LX(call:FuncId→List AV→M AV)(args:List AV)(h:Hp)(S:aC)(β:List bU)(w:World)(vs:List Value)(hr:gJ 5 83 call args h≠.fail)(hg:vX β h w)(hw:Wf S w)(hh:cU S β w h)(hv:bj S β args vs):
  Calls Tryz.prog 82 vs.toArray w (eM none S β h w (gJ 5 83 call args h)):=by
 have h0:=hr
 unfold gJ at hr
 split at hr
 ·rename_i g'
  cases hb:Nat.beq g' 83 with
  | false=>rw[hb] at hr;exact absurd rfl hr
  | true=>
   have e:gJ 5 83 call [.sl [],.fn (.func g') [] []] h= .ok (.tup []) h:=by simp only[gJ,hb,cond_true]
   rw[e]
   simp only[bj,VR,List.length_nil] at hv
   obtain⟨_,_,rfl,⟨a,cap,rfl,_⟩,v,_,rfl,_,rfl⟩:=hv
   refine (AnyF.slices_SortFunc_none Tryz.laysSortS a cap v w).mono ?_
   rintro e' w' ⟨rfl,rfl⟩
   exact jG hw hh (Below.refl _ _) HR (by simp only[VR,bj];exact⟨[],rfl,rfl⟩)
 ·rename_i g'
  cases hb:Nat.beq g' 83 with
  | false=>rw[hb] at hr;exact absurd rfl hr
  | true=>
   have e:gJ 5 83 call [.hn,.fn (.func g') [] []] h= .ok (.tup []) h:=by simp only[gJ,hb,cond_true]
   rw[e]
   simp only[bj,VR] at hv
   obtain⟨_,_,rfl,rfl,v,_,rfl,_,rfl⟩:=hv
   refine (AnyF.slices_SortFunc_none Tryz.laysSortS none 0 v w).mono ?_
   rintro e' w' ⟨rfl,rfl⟩
   exact jG hw hh (Below.refl _ _) HR (by simp only[VR,bj];exact⟨[],rfl,rfl⟩)
 ·exact Fl call xZ h0 hg hw hh hv
 ·exact absurd rfl hr
end Go.Proofs.YtkkabinknmldeaaGreat
namespace Go.Proofs.YtkkabinknmldeaaGreat.F
open Go Go.Av Go.Av.Ap
set_option maxRecDepth 100000
def Ey:Ann:={ kinds:=[(1,.L),(4,.S)],hl:=[16],nl:=[16,21],lw:=[2,4,8],loops:=[(0,{ vals:=[(10,none),(11,none),(12,none),(2000,none),(2001,none),(3000,none),(3001,none)],locs:=[(1,2000,0),(2,3000,0)],lbs:=[(2000,2),(3000,2)] })] }
def kB:Ann:={ iso:=false,ha:=[7] }
noncomputable def og:List (Nat×(Func×Ann)):=[(81,(Tryz.f81,Ey))]
def own:FuncId→Option Nat:=fun _=>none
noncomputable def other:FuncId→Option ((FuncId→List AV→M AV)→List AV→M AV):=fun f=>bif Nat.beq f 146 then some (di T 23) else none
noncomputable def pg:Pg:={ T:=T,funcs:=tv og,own:=own,other:=other,nw:=fun f=>bif Nat.beq f 146 then true else false }
theorem hOther:dK pg:=by
 intro f E hE call calls hc
 have h0:other f=some E:=hE
 unfold other at h0
 rcases fl h0 with rfl | h0
 ·exact qJ _ _ _ _
 cases h0
noncomputable def L81_0 (call:FuncId→RR) (fx:bB AV) (a:RR) (b:List AV):M AV:=ae (af (am T BinOp.lss 3 (nth b 2) (nth b 1))) (fun c=>ap c (ae (af (ak T 23 (nth b 0) (nth b 2))) (fun d=>ae (aR T 87 d) (fun e=>ae (aH 3 e) (fun f=>ae (af (aa T 87 (.ip (ab f)) 1)) (fun g=>ae (af (ah T 72 g)) (fun h=>ae (cR (call 81 [h])) (fun i=>ae (af (ak T 23 (nth b 4) (nth b 2))) (fun j=>ae (af (aa T 87 j 1)) (fun k=>ae (bo T 72 k i) (fun l=>ae (af (am T BinOp.add 3 (nth b 2) (.int IntKind.i64 1))) (fun m=>a [nth b 0,nth b 1,m,nth b 3,nth b 4,nth b 5,nth b 6]))))))))))) (ae (ao 2 [] (.agg [nth b 3,nth b 4])) (fun n=>M.pure (AV.agg [nth (ab n) 0,nth (ab n) 1]))))
theorem XL81_0{call:FuncId→RR}:bD (L81_0 call aj) fun _n=>L81_0 call aj  :=by
 intro a b c d
 unfold L81_0
 exact (aJ.bnd (aJ.const _) fun _=>(au (aJ.bnd (aJ.const _) fun _=>(aJ.bnd (aJ.const _) fun _=>(aJ.bnd (aJ.const _) fun _=>(aJ.bnd (aJ.const _) fun _=>(aJ.bnd (aJ.const _) fun _=>(aJ.bnd (aJ.const _) fun _=>(aJ.bnd (aJ.const _) fun _=>(aJ.bnd (aJ.const _) fun _=>(aJ.bnd (aJ.const _) fun _=>(aJ.bnd (aJ.const _) fun _=>c _)))))))))) (aJ.const _)))
theorem FL81_0(call:FuncId→RR)(vs:List AV):aj (L81_0 call aj) vs=L81_0 call aj  (aj (L81_0 call aj)) vs:=aQ (XL81_0) vs
noncomputable def S81 (call:FuncId→RR) (fx:bB AV) (a0:AV):M AV:=ae (aH 2 a0) (fun a=>ae (call 146 [nth (ab a) 1]) (fun b=>ae (cn b) (fun c=>ae (af (aF T 23 b)) (fun d=>fx (L81_0 call fx) [b,d,.int IntKind.i64 0,nth (ab a) 0,b,.int IntKind.i64 0,.sl []]))))
theorem E81(call:FuncId→List AV→M AV)(fx:bB AV)(a0:AV):ci (pg.cx call Tryz.f81.ntmps Ey) fx Tryz.f81 (own 81) [a0]=S81 call fx a0:=by kernel_rfl
theorem C81(a0:AV):ai pg 81 [a0]=aE (S81 (ai pg) aj (cl aw a0)):=(ay hOther rfl rfl rfl _).trans (congrArg aE (E81 _ _ (cl aw a0)))
end Go.Proofs.YtkkabinknmldeaaGreat.F
namespace Go.Proofs.YtkkabinknmldeaaGreat
open Go Go.Av Go.Av.Ap
set_option maxRecDepth 100000
theorem Ln(e:AV)(es:List AV):ci (sK Tryz.f146.ntmps kB) (cZ 0) Tryz.f146 (some 3) [.sl (e:: es)]=ae (af (cP T 23 (.sl []) (.sl (e:: es)))) fun v=>ae (af (some v)) M.pure:=by kernel_rfl
theorem Lo:ci (sK Tryz.f146.ntmps kB) (cZ 0) Tryz.f146 (some 3) [.hn]=ae (af (some (.sl []))) M.pure:=by kernel_rfl
theorem Lp(l off:Nat):ci (sK Tryz.f146.ntmps kB) (cZ 0) Tryz.f146 (some 3) [.hs l off 0 1 false]=ae (af (cP T 23 (.sl []) (.hs l off 0 1 false))) fun v=>ae (af (some v)) M.pure:=by kernel_rfl
theorem Lq(l off:Nat):cP T 23 (.sl []) (.hs l off 0 1 false)=some (.sl []):=by rfl
theorem zM(call:FuncId→List AV→M AV)(args:List AV)(h:Hp)(S:aC)(β:List bU)(w:World)(vs:List Value)(hr:fA T 23 call args h≠.fail)(hg:vX β h w)(hw:Wf S w)(hh:cU S β w h)(hv:bj S β args vs):
  Calls Tryz.prog 146 vs.toArray w (eM (some 3) S β h w (fA T 23 call args h)):=by
 have key:∀ es,args=[.sl es]→Calls Tryz.prog 146 vs.toArray w (eM (some 3) S β h w (fA T 23 call args h)):=by
  rintro es rfl
  exact (jF (cx:=sK Tryz.f146.ntmps kB) (own:=some 3) (E:=fun es h=>fA T 23 call [.sl es] h) tok (mj _ _) (qd _ _) Tryz.func146 rfl (fun h=>by rfl) (fun e es h=>by rw[Ln];exact congrFun (uC _) h) (fun h=>by rw[Lo];rfl) (fun l off h=>by rw[Lp,Lq];rfl) hr hg hw hh hv).1
 unfold fA at hr
 split at hr
 ·exact key _ rfl
 ·exact absurd rfl hr
end Go.Proofs.YtkkabinknmldeaaGreat
namespace Go.Proofs.YtkkabinknmldeaaGreat.F
open Go Go.Av Go.Av.Ap
set_option maxRecDepth 100000
theorem LF(e:AV)(es:List AV):ci (sK Tryz.f146.ntmps kB) (cZ 0) Tryz.f146 none [.sl (e:: es)]=ae (appH T 23 true (.sl []) (.sl (e:: es))) fun v=>ae (af (some v)) M.pure:=by kernel_rfl
theorem LG:ci (sK Tryz.f146.ntmps kB) (cZ 0) Tryz.f146 none [.hn]=ae (af (some (.sl []))) M.pure:=by kernel_rfl
theorem LH(l off:Nat):ci (sK Tryz.f146.ntmps kB) (cZ 0) Tryz.f146 none [.hs l off 0 1 false]=ae (appH T 23 true (.sl []) (.hs l off 0 1 false)) fun v=>ae (af (some v)) M.pure:=by kernel_rfl
theorem zM(call:FuncId→List AV→M AV)(args:List AV)(h:Hp)(S:aC)(β:List bU)(w:World)(vs:List Value)(hr:di T 23 call args h≠.fail)(hg:vX β h w)(hw:Wf S w)(hh:cU S β w h)(hv:bj S β args vs):
  Calls Tryz.prog 146 vs.toArray w (eM none S β h w (di T 23 call args h)):=by
 have key:∀ es,args=[.sl es]→Calls Tryz.prog 146 vs.toArray w (eM none S β h w (di T 23 call args h)):=by
  rintro es rfl
  exact (jF (cx:=sK Tryz.f146.ntmps kB) (E:=fun es h=>di T 23 call [.sl es] h) tok (mj _ _) (qd _ _) Tryz.func146 rfl (fun h=>by rfl) (fun e es h=>by rw[LF];exact congrFun (uC _) h) (fun h=>by rw[LG];rfl) (fun l off h=>by rw[LH];rfl) hr hg hw hh hv).1
 unfold di at hr
 split at hr
 ·exact key _ rfl
 ·exact absurd rfl hr
theorem vM:(og.map fun x=>Tryz.prog.funcs[x.1]?)=og.map fun x=>some x.2.1:=by kernel_rfl
theorem nd:(og.map fun x=>x.2.1.name== "runtime.NumGoroutine")=og.map fun _=>false:=by kernel_rfl
theorem M4{f k:Nat}{α:Type}{x y:α}{o:Option α}(h:(bif Nat.beq f k then some x else o)=some y):(f=k∧x=y)∨o=some y:=by
 cases hb:Nat.beq f k with
 | true=>rw[hb] at h;exact .inl ⟨Nat.eq_of_beq_eq_true hb,by simpa using h⟩
 | false=>rw[hb] at h;exact .inr h
theorem good:GoodPg Tryz.prog pg where
 tok:=tok
 funcs:=fun f fn a h=>by
  have:=oE og f (fn,a) h
  exact⟨gL vM _ this,gL nd _ this⟩
 other:=by
  intro f E hE call hC args h S β w vs hr hg hw hh hv
  have h0:other f=some E:=hE
  unfold other at h0
  rcases M4 h0 with ⟨rfl,rfl⟩ | h0
  ·exact⟨zM call args h S β w vs hr hg hw hh hv,by kernel_rfl⟩
  cases h0
 nw:=by
  intro f hf
  have h0:(bif Nat.beq f 146 then true else false)=true:=hf
  cases hb:Nat.beq f 146 with
  | true=>
   have:=Nat.eq_of_beq_eq_true hb
   subst this
   exact⟨_,rfl,fun call args=>tn _ _ _ _⟩
  | false=>rw[hb] at h0;cases h0
theorem aP{α β:Type}{m:M α}{a:α}{h h':Hp}(e:m h= .ok a h')(f:α→M β):ae m f h=f a h':=by simp only[ae,e]
theorem I4(x:bP):(ab (bF x)).length=3:=by simp
theorem lJ(l:List bP):aK l= .sl (l.map bF):=by rw[aK,cS]
theorem FD{q:Nat}{l:List bP}{i:Nat}{h:Hp}(hi:i < l.length)(hq:h[q]? = some (rowOf bF l)):aR T 87 (.hp q (0 + i * 3)) h= .ok (bF l[i]) h:=by
 have hlen:=fY (f:=bF) I4 l
 rw[Co (T:=T) (t:=87) rfl rfl hq (show 0 + i * 3 + 3≤_ by omega)]
 show R.ok (AV.agg (((rowOf bF l).drop (0 + i * 3)).take 3)) h=_
 rw[Nat.zero_add,iv I4 l i hi,df,ij]
theorem Gv{q:Nat}{l:List bP}{i:Nat}{h:Hp}(hi:i < l.length)(hq:h[q]? = some (rowOf bF l)):bo T 72 (.hp q (0 + i * 3 + 1)) l[i].2.av h= .ok (.tup []) h:=by
 have hlen:=fY (f:=bF) I4 l
 refine ye (T:=T) (t:=72) rfl hq (Ap.nQ _) (show 0 + i * 3 + 1 + 2≤_ by omega) (by decide) ?_
 have:=iv I4 l i hi
 have h2:((rowOf bF l).drop (0 + i * 3 + 1)).take 2=(((rowOf bF l).drop (i * 3)).take 3).drop 1:=by
  rw[List.drop_take,List.drop_drop]
  congr 2
  omega
 rw[ej]
 show ((rowOf bF l).drop (0 + i * 3 + 1)).take 2=_
 rw[h2,this,df]
 rfl
theorem NL{q n i:Nat}(h:i < n):ak T 23 (.hs q 0 n 3 true) (.int .i64 (i:Int))=some (.hp q (0 + i * 3)):=by
 have e:ak T 23 (.hs q 0 n 3 true) (.int .i64 (i:Int))=if 0≤(i:Int)∧(i:Int) < (n:Int) then some (.hp q (0 + (i:Int).toNat * 3)) else none:=rfl
 rw[e,if_pos (by omega),Int.toNat_natCast]
theorem J9(t:Ty)(hb:t.fields.length≤4611686018427387904)(hk:∀ f∈t.fields,ai pg 81 [f.2.av]=M.pure f.2.av)(q:Nat)(h:Hp)(hq:h[q]? = some (rowOf bF t.fields))(x5 x6:AV):∀(n i:Nat),t.fields.length - i=n→i≤t.fields.length→
  aj (L81_0 (ai pg) aj) [.hs q 0 t.fields.length 3 true,.int .i64 t.fields.length,.int .i64 i,.int .i64 t.kind,.hs q 0 t.fields.length 3 true,x5,x6] h= .ok (.agg [.int .i64 t.kind,.hs q 0 t.fields.length 3 true]) h:=by
 intro n
 induction n with
 | zero=>
  intro i hn hi
  rw[FL81_0]
  have h1:¬ ((i:Int) < (t.fields.length:Int)):=by omega
  have h2:ao 2 [] (.agg [.int .i64 t.kind,.hs q 0 t.fields.length 3 true])=M.pure (.agg [.int .i64 t.kind,.hs q 0 t.fields.length 3 true]):=aY rfl
  simp[L81_0,h1,h2,M.pure]
 | succ n ih=>
  intro i hn hi
  have hlt:i < t.fields.length:=by omega
  have h1:(i:Int) < (t.fields.length:Int):=by omega
  have ih':=ih (i + 1) (by omega) (by omega)
  have hw:IntKind.i64.wrap ((i:Int) + 1)=((i + 1:Nat):Int):=bq (by omega)
  have hc:=hk t.fields[i] (List.getElem_mem hlt)
  rw[← ih']
  generalize hcode:aj (L81_0 (ai pg) aj) [.hs q 0 t.fields.length 3 true,.int .i64 t.fields.length,.int .i64 i,.int .i64 t.kind,.hs q 0 t.fields.length 3 true,x5,x6] h=code
  rw[FL81_0] at hcode
  simp -implicitDefEqProofs only[L81_0,aL,aS,bz,ar,aA,h1,decide_true,if_true,NL hlt] at hcode
  rw[aP (FD hlt hq)] at hcode
  simp -implicitDefEqProofs only[qF,aB,df,FA87_1,ar,List.drop_succ_cons,List.drop_zero,LD72,List.length_cons,List.length_nil,Nat.zero_add,Nat.reduceAdd,Nat.le_refl,if_true,List.take_succ_cons,List.take_zero,eP,hc,dW,FH87_1] at hcode
  rw[show (i * 3 + 1)=0 + i * 3 + 1 by omega] at hcode
  rw[aP (Gv hlt hq)] at hcode
  simp -implicitDefEqProofs only[cX,ar,hw] at hcode
  rw[← hcode]
theorem t81:∀(d:Nat)(t:Ty),xy d t→ai pg 81 [t.av]=M.pure t.av
 | 0,t,h=>h.elim
 | d + 1,t,h=>by
  have hlen:t.fields.length≤100:=h.1
  have ih:∀ f∈t.fields,ai pg 81 [f.2.av]=M.pure f.2.av:=fun f hf=>t81 d f.2 (h.2 f hf)
  have e0:ai pg 146 [aK t.fields]=di T 23 (ai pg) [aK t.fields]:=dy hOther rfl _
  have e1:=yW (T:=T) (t:=23) (f:=bF) (sz:=3) rfl rfl rfl rfl rfl (by decide) (by decide) (fun x=>ir x) (ai pg) t.fields (show t.fields.length * 48≤140737488355328 by omega) []
  rw[← lJ,← e0] at e1
  rw[C81]
  funext hp
  show aE _ hp=R.ok t.av hp
  by_cases hf:t.fields=[]
  ·rw[if_pos hf] at e1
   have e2:ao 2 [] (.agg [.int .i64 t.kind,.sl []])=M.pure (.agg [.int .i64 t.kind,.sl []]):=aY rfl
   have key:S81 (ai pg) aj (cl aw t.av) []= .ok (.agg [.int .i64 t.kind,.sl []]) []:=by
    simp only[S81,tm,gE,aB,ej,aL,aS]
    rw[aP e1]
    simp only[cn,aO,cond_true,ar,Ik]
    rw[FL81_0]
    simp[L81_0,e2,M.pure]
   unfold aE
   rw[key]
   have:(AV.agg [.int .i64 t.kind,.sl []])=t.av:=by rw[← eP,hf];rfl
   rw[this]
   simp only[R.ok.injEq,and_true]
   exact (Clean.frz (fun g=>tm g t) 6 [])
  ·rw[if_neg hf] at e1
   have hq:([]++[rowOf bF t.fields]:Hp)[0]? = some (rowOf bF t.fields):=rfl
   have key:S81 (ai pg) aj (cl aw t.av) []= .ok (.agg [.int .i64 t.kind,.hs 0 0 t.fields.length 3 true]) ([]++[rowOf bF t.fields]):=by
    simp only[S81,tm,gE,aB,ej,aL,aS]
    rw[aP e1]
    simp only[cn,aO,cond_true,ar,Jq,List.length_nil]
    exact J9 t (by omega) ih 0 _ hq _ _ t.fields.length 0 rfl (by omega)
   unfold aE
   rw[key]
   have hfr:=oG (f:=bF) I4 (fun x=>by rw[df,ij]) (fun x g=>ER g x) (by decide) hq 5
   have:ix 6 ([]++[rowOf bF t.fields]) (.agg [.int .i64 t.kind,.hs 0 0 t.fields.length 3 true])=t.av:=by
    rw[← eP,lJ,← hfr]
    rfl
   show R.ok (ix 6 _ _) hp=_
   rw[this]
end Go.Proofs.YtkkabinknmldeaaGreat.F
namespace Go.Proofs.YtkkabinknmldeaaGreat
open Go Go.Av Go.Av.Ap
theorem LW(call:FuncId→List AV→M AV)(args:List AV)(h:Hp)(S:aC)(β:List bU)(w:World)(vs:List Value)(hr:mh call args h≠.fail)(hg:vX β h w)(hw:Wf S w)(hh:cU S β w h)(hv:bj S β args vs):
  Calls Tryz.prog 81 vs.toArray w (eM none S β h w (mh call args h)):=by
 unfold mh at hr ⊢
 split at hr
 ·rename_i v
  cases hc:Ih 5 v with
  | false=>rw[hc] at hr;exact absurd rfl hr
  | true=>
   obtain⟨t,rfl,ht⟩:=yp 5 v hc
   have e:=congrFun (F.t81 5 t ht) h
   have:=(lD F.good F.hOther 81 [t.av] h S β w vs (by rw[e];simp[M.pure]) hg hw hh hv).1
   rw[e] at this
   exact this
 ·exact absurd rfl hr
theorem tR:∀(d:Nat)(t:Ty),dw d t=true→xy d t
 | 0,t,h=>by cases h
 | d + 1,t,h=>by
  rw[fg] at h
  simp only[Bool.and_eq_true,decide_eq_true_eq,List.all_eq_true] at h
  exact⟨by have:=h.1.1.2;omega,fun f hf=>tR d f.2 (h.2.1 f hf).2⟩
end Go.Proofs.YtkkabinknmldeaaGreat
namespace Go.Proofs.YtkkabinknmldeaaGreat
open Go Go.Av Go.Av.Ap Go.RowKit
set_option maxRecDepth 100000
theorem M5{α:Type}{f k:Nat}{x:α}{o:Option α}{y:α}(h:(bif Nat.beq f k then some x else o)=some y):(f=k∧x=y)∨o=some y:=by
 cases hb:Nat.beq f k with
 | true=>rw[hb] at h;exact .inl ⟨Nat.eq_of_beq_eq_true hb,by simpa using h⟩
 | false=>rw[hb] at h;exact .inr h
theorem EL{α:Type}{f k:Nat}{x y:α}{o:Option α}{P:Prop}(h1:f=k→x=y→P)(h2:o=some y→P)(h:(bif Nat.beq f k then some x else o)=some y):P:=(M5 h).elim (fun h=>h1 h.1 h.2) h2
theorem good:GoodPg Tryz.prog pg where
 tok:=tok
 funcs:=wZ
 other:=by
  intro f E hE call hC args h S β w vs hr hg hw hh hv
  have h0:other f=some E:=hE
  unfold other at h0
  revert h0
  repeat' refine EL ?_ ?_
  all_goals first
   | (intro h0;cases h0;done)
   | (rintro rfl rfl;exact absurd rfl hr)
   | (rintro rfl rfl;exact⟨Kf call args h S β w vs hr hg hw hh hv,by kernel_rfl⟩)
   | (rintro rfl rfl;exact⟨Kg call args h S β w vs hr hg hw hh hv,by kernel_rfl⟩)
   | (rintro rfl rfl;exact⟨LX call args h S β w vs hr hg hw hh hv,by kernel_rfl⟩)
   | (rintro rfl rfl;exact⟨zM call args h S β w vs hr hg hw hh hv,by kernel_rfl⟩)
   | (rintro rfl rfl;exact⟨LW call args h S β w vs hr hg hw hh hv,by kernel_rfl⟩)
   | (rintro rfl rfl;exact⟨Kd call args h S β w vs hr hg hw hh hv,by kernel_rfl⟩)
   | (rintro rfl rfl;exact⟨Ke call args h S β w vs hr hg hw hh hv,by kernel_rfl⟩)
   | (rintro rfl rfl;exact⟨Kt call hC args h S β w vs hr hg hw hh hv,by kernel_rfl⟩)
 nw:=by
  intro f hf
  have h0:(bif Nat.beq f 166 then true else false)=true:=hf
  cases hb:Nat.beq f 166 with
  | true=>
   have:=Nat.eq_of_beq_eq_true hb
   subst this
   exact⟨_,rfl,fun call args=>tn _ _ _ _⟩
  | false=>rw[hb] at h0;cases h0
end Go.Proofs.YtkkabinknmldeaaGreat
namespace Go.Proofs.YtkkabinknmldeaaGreat
open Go Go.Av Go.ChangeShapes Go.WideShapes Go.ChangeAt Go.RowKit
set_option maxRecDepth 1000000
theorem Ng:ownKnob Tryz.prog.godebug=none:=by kernel_rfl
theorem J0{W:World}(hS:W.ShapedOpen Tryz.prog):GOKw W:=by
 refine⟨?_⟩
 exact cell_of_shapedOpen_int (zero:=#[.int .i64 0]) (t:=3) hS (of_decide_eq_true (by kernel_rfl)) (by kernel_rfl) rfl (by kernel_rfl) (by kernel_rfl) Tryz.underlying3
noncomputable def tJ (os:Os):World:=World.holding Tryz.prog os ⟨#[],#[],[]⟩
end Go.Proofs.YtkkabinknmldeaaGreat
namespace Go.Proofs.YtkkabinknmldeaaGreat
open Go Go.Av Go.Av.Ap Go.RowKit
set_option maxRecDepth 1000000
section
variable {H:Type} {enc:TypeId×Value→H} {W:World}
theorem jl:reachBytes=140737488351232:=rfl
theorem vB(N:Nat):Rd enc Tryz.prog W N 22 (fun l:List aU=>[strs l]) (fun l=>l.length≤8796093022208):=
 (jk (oX Tryz.underlying9) Tryz.underlying22 (by kernel_rfl:_=1) (by decide) (by kernel_rfl:_=16) (wG fun _=>rfl)).map id (fun _=>rfl) (fun l h=>by have:=h.1;rw[jl] at this;simp only[id];omega)
theorem H3(N:Nat):Rd enc Tryz.prog W N 44 (fun l:List Int=>[ints l]) (fun l=>l.length≤140737488355328):=
 (jk (jU Tryz.underlying3) Tryz.underlying44 (by kernel_rfl:_=1) (by decide) (by kernel_rfl:_=8) (wG fun _=>rfl)).map id (fun _=>rfl) (fun l h=>by have:=h.1;rw[jl] at this;simp only[id];omega)
theorem Val.lim_mk{k n:Int}{ns:List aU}{vs:List Val}(h1:ns.length≤140737488355328)(h2:vs.length≤140737488355328)(h3:∀ v∈vs,v.Lim):(Val.mk k n ns vs).Lim:=fun j=>match j with
 | 0=>trivial
 | j + 1=>⟨h1,h2,fun x hx=>h3 x hx j⟩
theorem Exp.lim_mk{o n:Int}{s m:aU}{ns:List aU}{es:List Exp}(h1:ns.length≤8796093022208)(h2:es.length≤140737488355328)(h3:∀ v∈es,v.Lim):(Exp.mk o n s m ns es).Lim:=fun j=>match j with
 | 0=>trivial
 | j + 1=>⟨h1,h2,fun x hx=>h3 x hx j⟩
theorem Ty.lim_mk{k:Int}{fs:List bP}(h2:fs.length≤140737488355328)(h3:∀ v∈fs,v.2.Lim):(Ty.mk k fs).Lim:=fun j=>match j with
 | 0=>trivial
 | j + 1=>⟨h2,fun x hx=>h3 x hx j⟩
theorem rS{N:Nat}(h:Rd enc Tryz.prog W N 51 (fun v:Val=>ab v.av) Val.Lim):Rd enc Tryz.prog W N 47 (fun l:List Val=>[vals l]) (fun l=>l.length≤140737488355328∧∀ v∈l,v.Lim):=
 (jk h Tryz.underlying47 (by kernel_rfl:_=4) (by decide) (by kernel_rfl:_=64) (ev:=Val.av) (j0 fun v=>by rw[v.av_eq];rfl)).map id (fun l=>by simp[vals,cI]) (fun l h=>⟨by have:=h.1;rw[jl] at this;simp only[id];omega,h.2⟩)
theorem rd_val:∀ N,Rd enc Tryz.prog W N 51 (fun v:Val=>ab v.av) Val.Lim
 | 0=>.zero
 | N + 1=>(gP Tryz.underlying51 (by kernel_rfl) (bk (jU Tryz.underlying3) rfl (by kernel_rfl:_=1) (bk (jU Tryz.underlying3) rfl (by kernel_rfl:_=1) (bk (vB N) rfl (by kernel_rfl:_=1)
   (bk (rS (rd_val N)) rfl (by kernel_rfl:_=1) jj))))).map (fun x=>Val.mk x.1 x.2.1 x.2.2.1 x.2.2.2.1) (fun x=>by simp[Val.av_eq,ab]) (fun x h=>Val.lim_mk (by have:=h.2.2.1;omega) h.2.2.2.1.1 h.2.2.2.1.2)
theorem H5(N:Nat):Rd enc Tryz.prog W N 47 (fun l:List Val=>[vals l]) (fun l=>l.length≤140737488355328∧∀ v∈l,v.Lim):=rS (rd_val N)
theorem rQ{N:Nat}(h:Rd enc Tryz.prog W N 74 (fun v:Exp=>v.cells) Exp.Lim):Rd enc Tryz.prog W N 24 (fun l:List Exp=>[cb l]) (fun l=>l.length≤140737488355328∧∀ v∈l,v.Lim):=
 (jk h Tryz.underlying24 (by kernel_rfl:_=6) (by decide) (by kernel_rfl:_=96) (ev:=Exp.av) (j0 fun v=>rfl)).map id (fun l=>by simp[cb,eV]) (fun l h=>⟨by have:=h.1;rw[jl] at this;simp only[id];omega,h.2⟩)
theorem zO:∀ N,Rd enc Tryz.prog W N 74 (fun v:Exp=>v.cells) Exp.Lim
 | 0=>.zero
 | N + 1=>(gP Tryz.underlying74 (by kernel_rfl) (bk (jU Tryz.underlying3) rfl (by kernel_rfl:_=1) (bk (jU Tryz.underlying3) rfl (by kernel_rfl:_=1) (bk (oX Tryz.underlying9) rfl (by kernel_rfl:_=1) (bk (oX Tryz.underlying9) rfl (by kernel_rfl:_=1)
   (bk (vB N) rfl (by kernel_rfl:_=1) (bk (rQ (zO N)) rfl (by kernel_rfl:_=1) jj))))))).map (fun x=>Exp.mk x.1 x.2.1 x.2.2.1 x.2.2.2.1 x.2.2.2.2.1 x.2.2.2.2.2.1) (fun x=>by simp[Exp.cells_eq,Exp.op,Exp.n,Exp.s,Exp.m,Exp.names,Exp.args]) (fun x h=>Exp.lim_mk h.2.2.2.2.1 h.2.2.2.2.2.1.1 h.2.2.2.2.2.1.2)
theorem vz(N:Nat):Rd enc Tryz.prog W N 24 (fun l:List Exp=>[cb l]) (fun l=>l.length≤140737488355328∧∀ v∈l,v.Lim):=rQ (zO N)
theorem rR{N:Nat}(h:Rd enc Tryz.prog W N 72 (fun v:Ty=>v.cells) Ty.Lim):Rd enc Tryz.prog W (N + 1) 23 (fun l:List bP=>[aK l]) (fun l=>l.length≤140737488355328∧∀ v∈l,v.2.Lim):=
 (jk ((gP Tryz.underlying87 (by kernel_rfl) (bk (oX Tryz.underlying9) rfl (by kernel_rfl:_=1) (bk h rfl (by kernel_rfl:_=2) jj))).map (fun x=>((x.1,x.2.1):bP)) (cells':=fun f=>ab (bF f)) (Ok':=fun f=>f.2.Lim) (fun x=>by simp[Ty.cells_eq]) (fun x h=>h.2.1))
  Tryz.underlying23 (by kernel_rfl:_=3) (by decide) (by kernel_rfl:_=48) (ev:=bF) (j0 fun v=>by rw[jd];rfl)).map id (fun l=>by simp[aK,cS]) (fun l h=>⟨by have:=h.1;rw[jl] at this;simp only[id];omega,h.2⟩)
theorem Gd:∀ N,Rd enc Tryz.prog W N 72 (fun v:Ty=>v.cells) Ty.Lim
 | 0=>.zero
 | N + 1=>(gP Tryz.underlying72 (by kernel_rfl) (bk (jU Tryz.underlying3) rfl (by kernel_rfl:_=1) (bk ((rR (Gd N)).le (Nat.le_succ N)) rfl (by kernel_rfl:_=1) jj))).map (fun x=>Ty.mk x.1 x.2.1)
   (fun x=>by simp[Ty.cells_eq,Ty.kind,Ty.fields]) (fun x h=>Ty.lim_mk h.2.1.1 h.2.1.2)
theorem vA(N:Nat):Rd enc Tryz.prog W N 23 (fun l:List bP=>[aK l]) (fun l=>l.length≤140737488355328∧∀ v∈l,v.2.Lim):=(rR (Gd N)).le (Nat.le_succ N)
theorem Kl(N:Nat):Rd enc Tryz.prog W (N + 1) 76 (fun f:Fun=>ab f.av) Fun.Lim:=
 (gP Tryz.underlying76 (by kernel_rfl) (bk (oX Tryz.underlying9) rfl (by kernel_rfl:_=1) (bk (A8 Tryz.underlying4) rfl (by kernel_rfl:_=1) (bk (vA N) rfl (by kernel_rfl:_=1) (bk (Gd N) rfl (by kernel_rfl:_=2)
  (bk (jU Tryz.underlying3) rfl (by kernel_rfl:_=1) (bk (zO N) rfl (by kernel_rfl:_=6) jj))))))).map (fun x=>(⟨x.1,x.2.1,x.2.2.1,x.2.2.2.1,x.2.2.2.2.1,x.2.2.2.2.2.1⟩:Fun))
  (fun x=>by simp[Ty.cells_eq,Exp.cells_eq]) (fun x h=>⟨h.2.2.1.1,h.2.2.1.2,h.2.2.2.1,h.2.2.2.2.2.1⟩)
theorem HZ(N:Nat):Rd enc Tryz.prog W N 25 (fun l:List Fun=>[eW l]) (fun l=>l.length≤140737488355328∧∀ v∈l,v.Lim):=
 ((jk (Kl N) Tryz.underlying25 (by kernel_rfl:_=12) (by decide) (by kernel_rfl:_=184) (ev:=Fun.av) (j0 fun v=>rfl)).map id (fun l=>by simp[eW]) (fun l h=>⟨by have:=h.1;rw[jl] at this;simp only[id];omega,h.2⟩)).le (Nat.le_succ N)
theorem Km(N:Nat):Rd enc Tryz.prog W (N + 1) 29 (fun m:Mod=>ab m.av) Mod.Lim:=
 (gP Tryz.underlying29 (by kernel_rfl) (bk (oX Tryz.underlying9) rfl (by kernel_rfl:_=1) (bk (vB N) rfl (by kernel_rfl:_=1) (bk (vA N) rfl (by kernel_rfl:_=1) (bk (vz N) rfl (by kernel_rfl:_=1)
  (bk (HZ N) rfl (by kernel_rfl:_=1) (bk (A8 Tryz.underlying4) rfl (by kernel_rfl:_=1)
  (bk ((gP Tryz.underlying27 (by kernel_rfl) (bk (vA N) rfl (by kernel_rfl:_=1) (bk (vz N) rfl (by kernel_rfl:_=1) (bk (vz N) rfl (by kernel_rfl:_=1) jj)))).le (Nat.le_succ N)) rfl (by kernel_rfl:_=3) jj)))))))).map
  (fun x=>(⟨x.1,x.2.1,x.2.2.1,x.2.2.2.1,x.2.2.2.2.1,x.2.2.2.2.2.1,x.2.2.2.2.2.2.1.1,x.2.2.2.2.2.2.1.2.1,x.2.2.2.2.2.2.1.2.2.1⟩:Mod))
  (fun x=>by simp) (fun x h=>⟨by have:=h.2.1;simp only;omega,h.2.2.1.1,h.2.2.1.2,h.2.2.2.1.1,h.2.2.2.1.2,h.2.2.2.2.1.1,h.2.2.2.2.1.2,h.2.2.2.2.2.2.1.1.1,h.2.2.2.2.2.2.1.1.2,h.2.2.2.2.2.2.1.2.1.1,h.2.2.2.2.2.2.1.2.1.2,h.2.2.2.2.2.2.1.2.2.1.1,h.2.2.2.2.2.2.1.2.2.1.2⟩)
theorem H4(N:Nat):Rd enc Tryz.prog W N 42 (fun l:List Mod=>[cw l]) (fun l=>l.length≤140737488355328∧∀ v∈l,v.Lim):=
 ((jk (Km N) Tryz.underlying42 (by kernel_rfl:_=9) (by decide) (by kernel_rfl:_=192) (ev:=Mod.av) (j0 fun v=>rfl)).map id (fun l=>by simp[cw]) (fun l h=>⟨by have:=h.1;rw[jl] at this;simp only[id];omega,h.2⟩)).le (Nat.le_succ N)
end
end Go.Proofs.YtkkabinknmldeaaGreat
namespace Go.Proofs.YtkkabinknmldeaaGreat
open Go Go.Av Go.Av.Ap
set_option maxRecDepth 100000
@[simp] theorem Lg(t:Nat)(a b:Int):am T .geq t (.int .u8 a) (.int .u8 b)=some (.bool (decide (b≤a))):=rfl
@[simp] theorem Lh(t:Nat)(a b:Int):am T .leq t (.int .u8 a) (.int .u8 b)=some (.bool (decide (a≤b))):=rfl
@[simp] theorem Bh(t:Nat)(a b:aU):am T .leq t (.str a) (.str b)=some (.bool (aT a b||a== b)):=rfl
theorem HF(f:AV)(F:bP→Bool)(l:List bP)(hb:l.length≤4611686018427387904)(hf:∀ x∈l,bw (ai pg) f [bF x]=M.pure (.bool (F x))):∀(n:Nat)(i:Int),l.length - i.toNat=n→0≤i→i≤l.length→
  aj (L228_0 (ai pg) aj) [aK l,f,.int .i64 l.length,.int .i64 i]=M.pure (.int .i64 (aZ F (l.drop i.toNat) i)):=by
 intro n
 induction n with
 | zero=>
  intro i hn hi hl
  rw[FL228_0]
  simp only[L228_0]
  have h1:¬ (i < (l.length:Int)):=by omega
  have h2:l.drop i.toNat=[]:=List.drop_eq_nil_of_le (by omega)
  simp[h1,h2,aZ]
 | succ n ih=>
  intro i hn hi hl
  have h1:i < (l.length:Int):=by omega
  have hlt:i.toNat < l.length:=by omega
  have h2:aZ F (l.drop i.toNat) i=if F l[i.toNat]=true then i else aZ F (l.drop (i.toNat + 1)) (i + 1):=by rw[List.drop_eq_getElem_cons hlt];rfl
  have h3:=hf l[i.toNat] (List.getElem_mem hlt)
  have h4:=ih (i + 1) (by omega) (by omega) (by omega)
  rw[show (i + 1).toNat=i.toNat + 1 by omega] at h4
  rw[FL228_0]
  simp only[L228_0]
  simp (disch:=omega) [h1,aV,mD,h3,h2]
  cases F l[i.toNat]
  ·simpa using h4
  ·simp
theorem t228(f:AV)(F:bP→Bool)(l:List bP)(hb:l.length≤4611686018427387904)(hc:∀ g,cl g f=f)(hf:∀ x∈l,bw (ai pg) f [bF x]=M.pure (.bool (F x))):ai pg 228 [aK l,f]=M.pure (.int .i64 (aZ F l 0)):=by
 rw[C228]
 simp[S228,hc,HF f F l hb hf l.length 0 rfl (by omega) (by omega)]
theorem t151(f:AV)(F:bP→Bool)(l:List bP)(hb:l.length≤4611686018427387904)(hc:∀ g,cl g f=f)(hf:∀ x∈l,bw (ai pg) f [bF x]=M.pure (.bool (F x))):ai pg 151 [aK l,f]=M.pure (.bool (l.any F)):=by
 rw[C151]
 simp[S151,hc,t228 f F l hb hc hf,kf]
theorem HD(f:AV)(F:Ty→Bool)(l:List Ty)(hb:l.length≤4611686018427387904)(hf:∀ x∈l,bw (ai pg) f [Ty.av x]=M.pure (.bool (F x))):∀(n:Nat)(i:Int),l.length - i.toNat=n→0≤i→i≤l.length→
  aj (L222_0 (ai pg) aj) [ib l,f,.int .i64 l.length,.int .i64 i]=M.pure (.int .i64 (aZ F (l.drop i.toNat) i)):=by
 intro n
 induction n with
 | zero=>
  intro i hn hi hl
  rw[FL222_0]
  simp only[L222_0]
  have h1:¬ (i < (l.length:Int)):=by omega
  have h2:l.drop i.toNat=[]:=List.drop_eq_nil_of_le (by omega)
  simp[h1,h2,aZ]
 | succ n ih=>
  intro i hn hi hl
  have h1:i < (l.length:Int):=by omega
  have hlt:i.toNat < l.length:=by omega
  have h2:aZ F (l.drop i.toNat) i=if F l[i.toNat]=true then i else aZ F (l.drop (i.toNat + 1)) (i + 1):=by rw[List.drop_eq_getElem_cons hlt];rfl
  have h3:=hf l[i.toNat] (List.getElem_mem hlt)
  have h4:=ih (i + 1) (by omega) (by omega) (by omega)
  rw[show (i + 1).toNat=i.toNat + 1 by omega] at h4
  rw[FL222_0]
  simp only[L222_0]
  simp (disch:=omega) [h1,aV,pd,h3,h2]
  cases F l[i.toNat]
  ·simpa using h4
  ·simp
theorem t222(f:AV)(F:Ty→Bool)(l:List Ty)(hb:l.length≤4611686018427387904)(hc:∀ g,cl g f=f)(hf:∀ x∈l,bw (ai pg) f [Ty.av x]=M.pure (.bool (F x))):ai pg 222 [ib l,f]=M.pure (.int .i64 (aZ F l 0)):=by
 rw[C222]
 simp[S222,hc,HD f F l hb hf l.length 0 rfl (by omega) (by omega)]
theorem t142(f:AV)(F:Ty→Bool)(l:List Ty)(hb:l.length≤4611686018427387904)(hc:∀ g,cl g f=f)(hf:∀ x∈l,bw (ai pg) f [Ty.av x]=M.pure (.bool (F x))):ai pg 142 [ib l,f]=M.pure (.bool (l.any F)):=by
 rw[C142]
 simp[S142,hc,t222 f F l hb hc hf,kf]
theorem HI(f:AV)(F:Sig→Bool)(l:List Sig)(hb:l.length≤4611686018427387904)(hf:∀ x∈l,bw (ai pg) f [Sig.av x]=M.pure (.bool (F x))):∀(n:Nat)(i:Int),l.length - i.toNat=n→0≤i→i≤l.length→
  aj (L290_0 (ai pg) aj) [sigs l,f,.int .i64 l.length,.int .i64 i]=M.pure (.int .i64 (aZ F (l.drop i.toNat) i)):=by
 intro n
 induction n with
 | zero=>
  intro i hn hi hl
  rw[FL290_0]
  simp only[L290_0]
  have h1:¬ (i < (l.length:Int)):=by omega
  have h2:l.drop i.toNat=[]:=List.drop_eq_nil_of_le (by omega)
  simp[h1,h2,aZ]
 | succ n ih=>
  intro i hn hi hl
  have h1:i < (l.length:Int):=by omega
  have hlt:i.toNat < l.length:=by omega
  have h2:aZ F (l.drop i.toNat) i=if F l[i.toNat]=true then i else aZ F (l.drop (i.toNat + 1)) (i + 1):=by rw[List.drop_eq_getElem_cons hlt];rfl
  have h3:=hf l[i.toNat] (List.getElem_mem hlt)
  have h4:=ih (i + 1) (by omega) (by omega) (by omega)
  rw[show (i + 1).toNat=i.toNat + 1 by omega] at h4
  rw[FL290_0]
  simp only[L290_0]
  simp (disch:=omega) [h1,aV,Jj,h3,h2]
  cases F l[i.toNat]
  ·simpa using h4
  ·simp
theorem t290(f:AV)(F:Sig→Bool)(l:List Sig)(hb:l.length≤4611686018427387904)(hc:∀ g,cl g f=f)(hf:∀ x∈l,bw (ai pg) f [Sig.av x]=M.pure (.bool (F x))):ai pg 290 [sigs l,f]=M.pure (.int .i64 (aZ F l 0)):=by
 rw[C290]
 simp[S290,hc,HI f F l hb hf l.length 0 rfl (by omega) (by omega)]
theorem t229(b:UInt8):ai pg 229 [.int .u8 b.toNat]=M.pure (.bool (qj b)):=by
 rw[C229]
 have e:decide ((b.toNat:Int)≤122)=decide (b.toNat≤122):=decide_eq_decide.2 (by omega)
 have e2:decide (97≤(b.toNat:Int))=decide (97≤b.toNat):=decide_eq_decide.2 (by omega)
 simp[S229,qj,e,e2]
theorem t232(b:UInt8):ai pg 232 [.int .u8 b.toNat]=M.pure (.bool (za b)):=by
 rw[C232]
 have e:decide ((b.toNat:Int)≤57)=decide (b.toNat≤57):=decide_eq_decide.2 (by omega)
 have e2:decide (48≤(b.toNat:Int))=decide (48≤b.toNat):=decide_eq_decide.2 (by omega)
 simp[S232,za,e,e2]
theorem t231(b:UInt8):ai pg 231 [.int .u8 b.toNat]=M.pure (.bool (qA b)):=by
 rw[C231]
 simp[S231,t229,t232,qA]
theorem I8{s:aU}{i:Nat}(h:i < s.length):gK T 9 (.str s) (.int .i64 (i:Int))=some (.int .u8 (s[i].toNat:Int)):=by
 have e1:gK T 9 (.str s) (.int .i64 (i:Int))=(if (i:Int) < 0 then none else s[(i:Int).toNat]?.map fun b=>.int .u8 b.toNat):=rfl
 rw[e1,if_neg (by omega),Int.toNat_natCast,List.getElem?_eq_getElem h]
 rfl
theorem HG(F:UInt8→Bool)(f:AV)(s:aU)(hb:s.length≤4611686018427387904)(hf:∀ b:UInt8,bw (ai pg) f [.int .u8 b.toNat]=M.pure (.bool (F b))):∀(n i:Nat),s.length - i=n→i≤s.length→
  aj (L230_0 (ai pg) aj) [.str s,f,.int .i64 i]=M.pure (.int .i64 ((i + ((s.drop i).takeWhile F).length:Nat):Int)):=by
 intro n
 induction n with
 | zero=>
  intro i hn hi
  rw[FL230_0]
  simp only[L230_0]
  have h1:¬ ((i:Int) < (s.length:Int)):=by omega
  have h2:s.drop i=[]:=List.drop_eq_nil_of_le (by omega)
  simp[h1,h2]
 | succ n ih=>
  intro i hn hi
  have hlt:i < s.length:=by omega
  have h1:(i:Int) < (s.length:Int):=by omega
  have h2:s.drop i=s[i]:: s.drop (i + 1):=List.drop_eq_getElem_cons hlt
  have h4:=ih (i + 1) (by omega) (by omega)
  have hw:IntKind.i64.wrap ((i:Int) + 1)=((i + 1:Nat):Int):=bq (by omega)
  rw[FL230_0]
  simp only[L230_0,aL,aS,MA,ar,bz,h1,decide_true,ga,I8 hlt,hf,aB,m8,aA,cX,hw,h4,h2,List.takeWhile_cons]
  cases F s[i]
  ·simp
  ·rw[if_pos rfl,if_pos rfl]
   congr 3
   simp
   omega
theorem t153(s:aU):ai pg 153 [.str s]=M.pure (.bool (pW s)):=by
 rw[C153]
 by_cases hs:s=[]
 ·subst hs
  simp[S153,pW]
 ·have hs':(s== [])=false:=beq_eq_false_iff_ne.2 hs
  have hpos:0 < s.length:=List.length_pos_iff.2 hs
  have h0:=I8 (s:=s) (i:=0) hpos
  have hd:s[0]=s.headD 0:=by cases s with | nil=>exact absurd rfl hs | cons c s=>rfl
  rw[hd] at h0
  simp at h0
  by_cases hl:s.length≤20
  ·have h1:=HG qA (.fn (.func 231) [] []) s (by omega) (fun b=>t231 b) s.length 0 (by simp) (by simp)
   have hsp:ai pg 230 [.str s,.fn (.func 231) [] []]=M.pure (.int .i64 (((s.takeWhile qA).length:Nat):Int)):=by
    rw[C230]
    simp only[S230,cl,dL]
    rw[show (AV.int .i64 0)=AV.int .i64 ((0:Nat):Int) from rfl,h1]
    simp
   have e1:decide (20 < (s.length:Int))=false:=by rw[decide_eq_false_iff_not];omega
   have e3:decide (20 < s.length)=false:=by rw[decide_eq_false_iff_not];omega
   have e4:decide (s.length≤20)=true:=by simpa using hl
   simp[S153,hs',h0,t229,hsp,e1,e3,e4,pW]
  ·have e1:decide (20 < (s.length:Int))=true:=by rw[decide_eq_true_eq];omega
   have e3:decide (20 < s.length)=true:=by rw[decide_eq_true_eq];omega
   have e4:decide (s.length≤20)=false:=by simpa using hl
   simp[S153,hs',h0,t229,e1,e3,e4,pW]
theorem t154(s:aU):ai pg 154 [.str my,.str s]=M.pure (.bool (Lib.contains my s)):=by
 rw[dy hOther (E:=jY) rfl]
 rfl
theorem Bg(t:Nat)(a b:aU):am T .add t (.str a) (.str b)=if a.length + b.length≤4611686018427387904 then some (.str (a++b)) else none:=rfl
theorem t53(s:aU):ai pg 53 [.str s]=M.pure (.bool (de s)):=by
 rw[C53]
 have h1:=t153 s
 unfold de
 cases hw:pW s with
 | false=>
  rw[hw] at h1
  simp[S53,h1]
 | true=>
  have hl:=CU hw
  rw[hw] at h1
  have h2:=t154 ([32]++s++[32])
  unfold my at h2
  have e1:am T .add 9 (.str [32]) (.str s)=some (.str ([32]++s)):=by rw[Bg,if_pos (by simp;omega)]
  have e2:am T .add 9 (.str ([32]++s)) (.str [32])=some (.str ([32]++s++[32])):=by rw[Bg,if_pos (by simp;omega)]
  simp only[S53,yV,h1,aB,ga,e1,ar,e2,h2,dS,aL,m8,iU,Bool.true_and]
  rfl
theorem Hx{t:Ty}(h:t.Lim)(k:Nat)(hk:k < t.fields.length):(t.fields[k]!).2.Lim:=by
 rw[getElem!_pos t.fields k hk]
 exact h.kid (List.getElem_mem hk)
theorem t155:∀(d:Nat),d≤4→∀(t:Ty),t.Lim→ai pg 155 [t.av,.int .i64 d]=M.pure (.bool (dw d t))
 | 0,_,t,_=>by
  rw[C155]
  simp[S155,dw]
 | d + 1,hd,t,ht=>by
  have ih:=t155 d (by omega)
  have hlen:=ht.len
  have hd1:IntKind.i64.wrap ((((d + 1:Nat)):Int) - 1)=(d:Int):=ui (by omega)
  have hloop:=uU (F:=L155_0 (ai pg) aj) (FL155_0 (ai pg)) (fun k=>[.int .i64 ((d + 1:Nat):Int),.ip (ab t.av),aK t.fields,.int .i64 t.fields.length,.int .i64 k]) t.fields.length
   (fun k=>(de (t.fields[k]!).1&&dw d (t.fields[k]!).2)&&(decide (k=0)||eI (t.fields[k - 1]!).1 (t.fields[k]!).1))
   (by simp[L155_0]) (fun k hk=>by
    have h1:(k:Int) < (t.fields.length:Int):=by omega
    have hix:=mD (l:=t.fields) (n:=(k:Int)) (by omega) h1
    rw[Int.toNat_natCast] at hix
    have hm:t.fields[k]! ∈t.fields:=by rw[getElem!_pos t.fields k hk];exact List.getElem_mem hk
    have h2:=t53 (t.fields[k]!).1
    have h3:=ih (t.fields[k]!).2 (Hx ht k hk)
    have hw:IntKind.i64.wrap ((k:Int) + 1)=(k:Int) + 1:=by rw[bq (by omega)];simp
    have hd0:IntKind.i64.wrap (d:Int)=(d:Int):=GI (by omega)
    generalize t.fields[k]! = f at hix h2 h3 hm ⊢
    rcases Nat.eq_zero_or_pos k with hk0 | hk0
    ·subst hk0
     have hix0:ak T 23 (aK t.fields) (.int .i64 0)=some (.ip (ab (bF f))):=hix
     have hw0:IntKind.i64.wrap 1=1:=rfl
     simp[L155_0,hix0,h2,h3,hw0,hd0,hk]
     cases de f.1 <;> cases dw d f.2 <;> simp
    ·have hp:IntKind.i64.wrap ((k:Int) - 1)=((k - 1:Nat):Int):=by
      rw[aV (by omega) (by omega)];omega
     have h4:((k - 1:Nat):Int) < (t.fields.length:Int):=by omega
     have hix2:=mD (l:=t.fields) (n:=((k - 1:Nat):Int)) (by omega) h4
     rw[Int.toNat_natCast] at hix2
     generalize t.fields[k - 1]! = g at hix2 ⊢
     have hk1:¬ k=0:=by omega
     simp[L155_0,h1,hix,h2,h3,hw,hd0,hp,hix2,hk0,hk1,hk]
     cases de f.1 <;> simp
     cases h5:aT f.1 g.1 <;> cases dw d f.2 <;> by_cases h6:f.1=g.1 <;> simp[eI,h5,h6]) 0 (Nat.zero_le _)
  have hall:((List.range' 0 t.fields.length).all fun k=>(de (t.fields[k]!).1&&dw d (t.fields[k]!).2)&&(decide (k=0)||eI (t.fields[k - 1]!).1 (t.fields[k]!).1))=(t.fields.all (fun f=>de f.1&&dw d f.2)&&kC (fun a b=>eI a.1 b.1) t.fields):=
   Ao (fun f:bP=>de f.1&&dw d f.2) (fun a b=>eI a.1 b.1) t.fields
  rw[Nat.sub_zero,hall] at hloop
  rw[C155]
  have h0:¬ ((d:Int) + 1=0):=by omega
  have hl2:aj (L155_0 (ai pg) aj) [.int .i64 ((d:Int) + 1),.ip [.int .i64 t.kind,aK t.fields],aK t.fields,.int .i64 t.fields.length,.int .i64 0]=M.pure (.bool (t.fields.all (fun f=>de f.1&&dw d f.2)&&kC (fun a b=>eI a.1 b.1) t.fields)):=by
   simpa using hloop
  have hR:dw (d + 1) t=if ((t.kind < 0∨3≤t.kind)∨8 < (t.fields.length:Int))∨¬ t.kind=2∧0 < t.fields.length then false else (t.fields.all (fun f=>de f.1&&dw d f.2)&&kC (fun a b=>eI a.1 b.1) t.fields):=by
   rw[fg]
   generalize (t.fields.all (fun f=>de f.1&&dw d f.2)&&kC (fun a b=>eI a.1 b.1) t.fields)=q
   generalize t.fields.length=n
   generalize t.kind=k
   split
   ·rename_i hc
    cases q
    ·simp
    ·simp only[Bool.and_true,Bool.and_eq_false_iff,decide_eq_false_iff_not,Bool.or_eq_false_iff,beq_eq_false_iff_ne]
     rcases hc with ((h | h) | h) | h
     ·exact .inl (.inl (.inl (by omega)))
     ·exact .inl (.inl (.inr (by omega)))
     ·exact .inl (.inr (by omega))
     ·exact .inr ⟨h.1,by omega⟩
   ·rename_i hc
    have e1:decide (0≤k)=true:=by rw[decide_eq_true_eq];omega
    have e2:decide (k < 3)=true:=by rw[decide_eq_true_eq];omega
    have e3:decide (n≤8)=true:=by rw[decide_eq_true_eq];omega
    have e4:(k== 2||n== 0)=true:=by
     rw[Bool.or_eq_true,beq_iff_eq,beq_iff_eq];omega
    rw[e1,e2,e3,e4]
    simp
  rw[hR]
  simp[S155,h0,hl2]
theorem t55(t:Ty)(ht:t.Lim):ai pg 55 [t.av]=M.pure (.bool (bN t)):=by
 rw[C55]
 have:ai pg 155 [t.av,.int .i64 4]=M.pure (.bool (dw 4 t)):=t155 4 (by omega) t ht
 simp[S55,this]
theorem t141(t:Ty)(ht:t.Lim):ai pg 141 [t.av]=M.pure (.bool (bN t)):=by
 rw[C141]
 simp[S141,t55 t ht]
theorem pC:(l:List bP)→gH (eJ l)=some (l.map fun f=>(f.1,f.2.kind,eJ f.2.fields))
 | []=>rfl
 | f:: l=>by simp[eJ,gH,pC l,jd,wR,aK]
theorem tK{α β:Type}(g:α→β)(p:β→Bool):(l:List α)→bQ p (l.map g)=(bQ (fun x=>p (g x)) l).map g
 | []=>rfl
 | x:: l=>by
  simp only[List.map_cons,bQ,tK g p l]
  cases bQ (fun x=>p (g x)) l with
  | some y=>rfl
  | none=>cases p (g x) <;> rfl
def ty0:Ty:=.mk 0 []
theorem t145(l:List bP)(hl:l.length≤1000000000)(s:aU):ai pg 145 [aK l,.str s]=M.pure (.tup [((bQ (fun f=>f.1== s) l).map (·.2)).getD ty0 |>.av,.bool (bQ (fun f=>f.1== s) l).isSome]):=by
 rw[dy hOther (E:=ml) rfl]
 unfold ml aK
 simp only[pC,List.length_map,hl,decide_true,cond_true,zE,tK]
 cases bQ (fun f:bP=>f.1== s) l with
 | none=>rfl
 | some f=>simp[af,M.pure,Ty.av,Ty.cells_eq,aK];rfl
def Ty.Short:Nat→Ty→Prop
 | 0,_=>True
 | n + 1,t=>t.fields.length≤1000000000∧∀ f∈t.fields,Ty.Short n f.2
theorem nZ:∀(d:Nat)(t:Ty),dw d t=true→∀ n,Ty.Short n t
 | 0,t,h,_=>by cases h
 | d + 1,t,h,0=>trivial
 | d + 1,t,h,n + 1=>by
  rw[fg] at h
  simp only[Bool.and_eq_true,decide_eq_true_eq,List.all_eq_true] at h
  exact⟨by omega,fun f hf=>nZ d f.2 (h.2.1 f hf).2 n⟩
theorem iV{α:Type}{p:α→Bool}:{l:List α} →{x:α} →bQ p l=some x→x∈l∧p x=true
 | [],x,h=>by cases h
 | y:: l,x,h=>by
  simp only[bQ] at h
  cases h2:bQ p l with
  | some z=>
   rw[h2] at h
   cases h
   have:=iV h2
   exact⟨List.mem_cons_of_mem _ this.1,this.2⟩
  | none=>
   rw[h2] at h
   cases h3:p y with
   | true=>rw[h3] at h;cases h;exact⟨List.mem_cons_self,h3⟩
   | false=>rw[h3] at h;cases h
theorem xD{α:Type}(P:α→Bool)(l:List α):(!l.any fun x=>!P x)=l.all P:=by simp[List.not_any_eq_all_not]
theorem t52:∀(n:Nat)(b a:Ty),Ty.Short n a→Ty.Short n b→dw n b=true→ai pg 52 [a.av,b.av]=M.pure (.bool (bR a b))
 | 0,b,a,_,_,h=>by cases h
 | n + 1,b,a,ha,hb,h=>by
  have ih:=t52 n
  rw[fg] at h
  simp only[Bool.and_eq_true,decide_eq_true_eq,List.all_eq_true] at h
  have hf:∀ f∈b.fields,bw (ai pg) (.fn (.func 152) [] [.ip (ab a.av)]) [bF f]=M.pure (.bool (!(match bQ (fun z=>z.1== f.1) a.fields with | some z=>bR z.2 f.2 | none=>false))):=by
   intro f hfm
   show ai pg 152 [bF f,.ip (ab a.av)]=_
   have h1:=t145 a.fields ha.1 f.1
   rw[C152]
   cases hl:bQ (fun z:bP=>z.1== f.1) a.fields with
   | none=>
    rw[hl] at h1
    simp[S152,h1,cl,dL]
   | some z=>
    rw[hl] at h1
    have h2:=ih f.2 z.2 (ha.2 z (iV hl).1) (hb.2 f hfm) (h.2.1 f hfm).2
    simp[S152,h1,cl,dL,h2]
  have h2:=t151 (.fn (.func 152) [] [.ip (ab a.av)]) _ b.fields (by have:=hb.1;omega) (fun g=>by simp[cl,dL]) hf
  rw[C52,tb]
  simp at h2
  simp[S52,h2]
  rw[xD]
  rfl
@[simp] theorem qC(t:Nat)(a b:Int):am T .andNot t (.int .i64 a) (.int .i64 b)=some (.int .i64 (ee a b)):=rfl
theorem aP{α β:Type}{m:M α}{a:α}{h h':Hp}(e:m h= .ok a h')(f:α→M β):ae m f h=f a h':=by simp only[ae,e]
theorem I4(x:bP):(ab (bF x)).length=3:=by simp
theorem lJ(l:List bP):aK l= .sl (l.map bF):=by rw[aK,cS]
theorem t81(t:Ty)(h:bN t=true):ai pg 81 [t.av]=M.pure t.av:=by
 have e0:ai pg 81 [t.av]=mh (ai pg) [t.av]:=dy hOther rfl _
 rw[e0]
 simp only[mh,GE 5 t (FM 4 t (tR 4 t h)),cond_true]
 rfl
theorem mW{α:Type}(F:α→Bool):(l:List α)→(i:Int)→(l.find? F=none∧aZ F l i= -1)∨∃(k:Nat)(x:α),l.find? F=some x∧l[k]? = some x∧aZ F l i=i + k
 | [],i=>.inl ⟨rfl,rfl⟩
 | x:: l,i=>by
  cases h:F x with
  | true=>exact .inr ⟨0,x,by simp[h],rfl,by simp[aZ,h]⟩
  | false=>
   rcases mW F l (i + 1) with ⟨h1,h2⟩ | ⟨k,y,h1,h2,h3⟩
   ·exact .inl ⟨by simp[h,h1],by simp[aZ,h,h2]⟩
   ·exact .inr ⟨k + 1,y,by simp[h,h1],by simpa using h2,by simp[aZ,h,h3];omega⟩
def eG(t:Ty):Prop:=∀ n,Ty.Short n t
theorem eG.len{t:Ty}(h:eG t):t.fields.length≤1000000000:=(h 1).1
theorem eG.kid{t:Ty}(h:eG t){f:bP}(hf:f∈t.fields):eG f.2:=fun n=>(h (n + 1)).2 f hf
theorem fO{d:Nat}{t:Ty}(h:dw d t=true):eG t:=nZ d t h
theorem vH{k:Int}{fs:List bP}(h:fs.length≤1000000000)(hf:∀ f∈fs,eG f.2):eG (.mk k fs):=fun n=>by
 cases n with
 | zero=>exact trivial
 | succ n=>exact⟨h,fun f hm=>hf f hm n⟩
theorem AH{t:Ty}{f:bP}(h:f∈t.fields):SizeOf.sizeOf f.2 < SizeOf.sizeOf t:=by
 cases t with
 | mk k fs=>
  have h1:=List.sizeOf_lt_of_mem (show f∈fs from h)
  obtain⟨n,t⟩:=f
  simp only[Prod.mk.sizeOf_spec,Ty.mk.sizeOf_spec] at h1 ⊢
  have:SizeOf.sizeOf t < SizeOf.sizeOf ((n,t):bP):=by simp only[Prod.mk.sizeOf_spec];omega
  simp only[Prod.mk.sizeOf_spec] at this
  omega
theorem o7(f:bP)(fs l:List bP):lp (f:: fs) l=(match Je f l with | some x=>[x] | none=>[])++lp fs l:=by
 simp only[lp]
 rfl
theorem GF(f:bP)(l:List bP):Je f l=match bQ (fun z=>z.1== f.1) l with
  | some z=>(match sk f.2 z.2 with | some u=>some (f.1,u) | none=>none)
  | none=>none:=by
 obtain⟨n,t⟩:=f
 simp only[Je]
 rfl
theorem yq(l:List bP):(fs:List bP)→(lp fs l).length≤fs.length
 | []=>by simp[lp]
 | f:: fs=>by
  have:=yq l fs
  rw[o7,List.length_append,List.length_cons]
  cases Je f l <;> simp <;> omega
theorem uW(n:aU)(t:Ty):aM T false 87 [(0,.str n),(1,t.av)]=some (bF (n,t)):=by
 cases t;rfl
theorem Mp(f:bP):aI T 23 1 [(0,bF f)]=some (aK [f]):=by
 obtain⟨n,t⟩:=f
 cases t;rfl
theorem G4(l:List bP):cn (aK l)=M.pure (aK l):=rfl
theorem HE(b:Ty)(hb:eG b)(l:List bP)(hl:l.length≤1000000000)(k:Int)(x4 x5:AV)(hk:∀ f∈l,∀ t:Ty,eG t→ai pg 227 [f.2.av,t.av]=M.pure (match sk f.2 t with | some u=>.tup [u.av,.bool true] | none=>.tup [ty0.av,.bool false])):∀(n i:Nat)(acc:List bP),l.length - i=n→i≤l.length→acc.length≤i→
  aj (L227_0 (ai pg) aj) [.ip (ab b.av),aK l,.int .i64 l.length,.int .i64 i,x4,x5,.int .i64 k,aK acc]=M.pure (.tup [(Ty.mk k (acc++lp (l.drop i) b.fields)).av,.bool true]):=by
 intro n
 induction n with
 | zero=>
  intro i acc hn hi ha
  have h1:¬ ((i:Int) < (l.length:Int)):=by omega
  have h2:l.drop i=[]:=List.drop_eq_nil_of_le (by omega)
  have h3:ao 2 [] (.agg [.int .i64 k,aK acc])=M.pure (.agg [.int .i64 k,aK acc]):=aY rfl
  rw[FL227_0,h2]
  simp[L227_0,h1,lp,h3]
  rfl
 | succ n ih=>
  intro i acc hn hi ha
  have hlt:i < l.length:=by omega
  have h1:(i:Int) < (l.length:Int):=by omega
  have h2:l.drop i=l[i]:: l.drop (i + 1):=List.drop_eq_getElem_cons hlt
  have hw:IntKind.i64.wrap ((i:Int) + 1)=(i:Int) + 1:=bq (by omega)
  have hix:=mD (l:=l) (n:=(i:Int)) (by omega) h1
  rw[Int.toNat_natCast,getElem!_pos l i hlt] at hix
  have hk':=hk l[i] (List.getElem_mem hlt)
  have hlk:=t145 b.fields hb.len l[i].1
  have ih2:∀ acc:List bP,acc.length≤i + 1→aj (L227_0 (ai pg) aj) [.ip (ab b.av),aK l,.int .i64 l.length,.int .i64 ((i:Int) + 1),x4,x5,.int .i64 k,aK acc]=M.pure (.tup [(Ty.mk k (acc++lp (l.drop (i + 1)) b.fields)).av,.bool true]):=fun acc ha=>ih (i + 1) acc (by omega) (by omega) ha
  simp only[ej] at ih2
  rw[FL227_0,h2,o7,GF]
  generalize l[i]=f at hix hk' hlk ⊢
  cases hz:bQ (fun z:bP=>z.1== f.1) b.fields with
  | none=>
   rw[hz] at hlk
   have ih':=ih2 acc (by omega)
   simp[L227_0,h1,hix,hlk,hw,ih']
  | some z=>
   rw[hz] at hlk
   have hc:=hk' z.2 (hb.kid (iV hz).1)
   cases hu:sk f.2 z.2 with
   | none=>
    rw[hu] at hc
    have ih':=ih2 acc (by omega)
    simp[L227_0,h1,hix,hlk,hw,hc,hu,ih']
   | some u=>
    rw[hu] at hc
    have ih':=ih2 (acc++[(f.1,u)]) (by simp;omega)
    have hap:=Jg (a:=acc) (b:=[(f.1,u)]) (by simp;omega)
    simp[L227_0,h1,hix,hlk,hw,hc,hu,uW,Mp,hap,G4,ih']
theorem t227(a b:Ty)(ha:eG a)(hb:eG b):ai pg 227 [a.av,b.av]=M.pure (match sk a b with | some u=>.tup [u.av,.bool true] | none=>.tup [ty0.av,.bool false]):=by
 have hloop:=HE b hb a.fields ha.len a.kind (.int .i64 0) (.sl []) (fun f hf t ht=>by
  have:=AH hf
  exact t227 f.2 t (ha.kid hf) ht) a.fields.length 0 [] rfl (Nat.zero_le _) (Nat.zero_le _)
 rw[C227]
 have e1:sk a b=if a.kind=b.kind then some (.mk a.kind (lp a.fields b.fields)) else none:=by
  cases a;cases b;simp only[sk,Ty.kind,Ty.fields];rfl
 have b1:aM T false 72 []=some ty0.av:=rfl
 have b2:∀ k:Int,aM T true 72 [(0,.int .i64 k)]=some (.agg [.int .i64 k,.hn]):=fun k=>rfl
 have b3:∀ k:Int,ao 2 [1] (.agg [.int .i64 k,.hn])=M.pure (.agg [.int .i64 k,.hn]):=fun k=>rfl
 rw[e1]
 simp only[List.drop_zero,List.nil_append] at hloop
 by_cases hk:a.kind=b.kind
 ·have hk':(a.kind != b.kind)=false:=by simp[hk]
  rw[if_pos hk]
  have hloop':aj (L227_0 (ai pg) aj) [.ip (ab b.av),aK a.fields,.int .i64 a.fields.length,.int .i64 0,.int .i64 0,.sl [],.int .i64 a.kind,.sl []]=M.pure (.tup [(Ty.mk a.kind (lp a.fields b.fields)).av,.bool true]):=hloop
  simp only[ej] at hloop'
  simp[S227,hk',b2,b3,hloop']
  exact bM fun g=>by simp[cl,dL]
 ·have hk':(a.kind != b.kind)=true:=by simp[hk]
  rw[if_neg hk]
  simp[S227,hk',b1]
  exact bM fun g=>by simp[cl,dL]
termination_by SizeOf.sizeOf a
end Go.Proofs.YtkkabinknmldeaaGreat
