/- What the functions of the seat compute, part 2: the texts of the claim, one behind the other. Conditions: bounds, as each theorem names them. -/
import Derived.Test.YtkkabinknmldeaaGreatTa
import Derived.Test.YtkkabinknmldeaaGreatLd
import Derived.KernelRfl
import Derived.RangeFuncNested
import Derived.RangeFuncBound
import Derived.RangeFuncCalls
import Derived.RangeFuncLeaves
import Derived.Shelf.Abstract
import Derived.Shelf.RegionOpen
import Derived.WalkKit
import Derived.OwnWalkIn
import Derived.TacticsInMore
import Derived.LoopNIn
import Derived.LoopIn
import Derived.Test.YtkkabinknmldeaaGreatLb
import Derived.Test.YtkkabinknmldeaaGreatProg
import Derived.RangeFuncBox
import Derived.Maps.AppendAt
set_option linter.unusedSimpArgs false
set_option linter.unusedVariables false
namespace Go.Proofs.YtkkabinknmldeaaGreat
open Go Go.Av Go.Av.Ap
set_option maxRecDepth 100000
@[simp] theorem FA27_0(cs:List AV):aa T 27 (.ip cs) 0=some (.ip (cs.drop 0)):=rfl
@[simp] theorem FH27_0(l k:Nat):aa T 27 (.hp l k) 0=some (.hp l (k + 0)):=rfl
@[simp] theorem FA27_1(cs:List AV):aa T 27 (.ip cs) 1=some (.ip (cs.drop 1)):=rfl
@[simp] theorem FH27_1(l k:Nat):aa T 27 (.hp l k) 1=some (.hp l (k + 1)):=rfl
@[simp] theorem FA27_2(cs:List AV):aa T 27 (.ip cs) 2=some (.ip (cs.drop 2)):=rfl
@[simp] theorem FH27_2(l k:Nat):aa T 27 (.hp l k) 2=some (.hp l (k + 2)):=rfl
@[simp] theorem FA29_0(cs:List AV):aa T 29 (.ip cs) 0=some (.ip (cs.drop 0)):=rfl
@[simp] theorem FH29_0(l k:Nat):aa T 29 (.hp l k) 0=some (.hp l (k + 0)):=rfl
@[simp] theorem FA29_1(cs:List AV):aa T 29 (.ip cs) 1=some (.ip (cs.drop 1)):=rfl
@[simp] theorem FH29_1(l k:Nat):aa T 29 (.hp l k) 1=some (.hp l (k + 1)):=rfl
@[simp] theorem FA29_2(cs:List AV):aa T 29 (.ip cs) 2=some (.ip (cs.drop 2)):=rfl
@[simp] theorem FH29_2(l k:Nat):aa T 29 (.hp l k) 2=some (.hp l (k + 2)):=rfl
@[simp] theorem FA29_3(cs:List AV):aa T 29 (.ip cs) 3=some (.ip (cs.drop 3)):=rfl
@[simp] theorem FH29_3(l k:Nat):aa T 29 (.hp l k) 3=some (.hp l (k + 3)):=rfl
@[simp] theorem FA29_4(cs:List AV):aa T 29 (.ip cs) 4=some (.ip (cs.drop 4)):=rfl
@[simp] theorem FH29_4(l k:Nat):aa T 29 (.hp l k) 4=some (.hp l (k + 4)):=rfl
@[simp] theorem FA29_5(cs:List AV):aa T 29 (.ip cs) 5=some (.ip (cs.drop 5)):=rfl
@[simp] theorem FH29_5(l k:Nat):aa T 29 (.hp l k) 5=some (.hp l (k + 5)):=rfl
@[simp] theorem FA29_6(cs:List AV):aa T 29 (.ip cs) 6=some (.ip (cs.drop 6)):=rfl
@[simp] theorem FH29_6(l k:Nat):aa T 29 (.hp l k) 6=some (.hp l (k + 6)):=rfl
@[simp] theorem FA49_0(cs:List AV):aa T 49 (.ip cs) 0=some (.ip (cs.drop 0)):=rfl
@[simp] theorem FH49_0(l k:Nat):aa T 49 (.hp l k) 0=some (.hp l (k + 0)):=rfl
@[simp] theorem FA49_1(cs:List AV):aa T 49 (.ip cs) 1=some (.ip (cs.drop 1)):=rfl
@[simp] theorem FH49_1(l k:Nat):aa T 49 (.hp l k) 1=some (.hp l (k + 1)):=rfl
@[simp] theorem FA49_2(cs:List AV):aa T 49 (.ip cs) 2=some (.ip (cs.drop 2)):=rfl
@[simp] theorem FH49_2(l k:Nat):aa T 49 (.hp l k) 2=some (.hp l (k + 2)):=rfl
@[simp] theorem FA51_0(cs:List AV):aa T 51 (.ip cs) 0=some (.ip (cs.drop 0)):=rfl
@[simp] theorem FH51_0(l k:Nat):aa T 51 (.hp l k) 0=some (.hp l (k + 0)):=rfl
@[simp] theorem FA51_1(cs:List AV):aa T 51 (.ip cs) 1=some (.ip (cs.drop 1)):=rfl
@[simp] theorem FH51_1(l k:Nat):aa T 51 (.hp l k) 1=some (.hp l (k + 1)):=rfl
@[simp] theorem FA51_2(cs:List AV):aa T 51 (.ip cs) 2=some (.ip (cs.drop 2)):=rfl
@[simp] theorem FH51_2(l k:Nat):aa T 51 (.hp l k) 2=some (.hp l (k + 2)):=rfl
@[simp] theorem FA51_3(cs:List AV):aa T 51 (.ip cs) 3=some (.ip (cs.drop 3)):=rfl
@[simp] theorem FH51_3(l k:Nat):aa T 51 (.hp l k) 3=some (.hp l (k + 3)):=rfl
@[simp] theorem FA55_0(cs:List AV):aa T 55 (.ip cs) 0=some (.ip (cs.drop 0)):=rfl
@[simp] theorem FH55_0(l k:Nat):aa T 55 (.hp l k) 0=some (.hp l (k + 0)):=rfl
@[simp] theorem FA55_1(cs:List AV):aa T 55 (.ip cs) 1=some (.ip (cs.drop 1)):=rfl
@[simp] theorem FH55_1(l k:Nat):aa T 55 (.hp l k) 1=some (.hp l (k + 1)):=rfl
@[simp] theorem FA55_2(cs:List AV):aa T 55 (.ip cs) 2=some (.ip (cs.drop 5)):=rfl
@[simp] theorem FH55_2(l k:Nat):aa T 55 (.hp l k) 2=some (.hp l (k + 5)):=rfl
@[simp] theorem FA55_3(cs:List AV):aa T 55 (.ip cs) 3=some (.ip (cs.drop 6)):=rfl
@[simp] theorem FH55_3(l k:Nat):aa T 55 (.hp l k) 3=some (.hp l (k + 6)):=rfl
@[simp] theorem FA55_4(cs:List AV):aa T 55 (.ip cs) 4=some (.ip (cs.drop 7)):=rfl
@[simp] theorem FH55_4(l k:Nat):aa T 55 (.hp l k) 4=some (.hp l (k + 7)):=rfl
@[simp] theorem FA60_0(cs:List AV):aa T 60 (.ip cs) 0=some (.ip (cs.drop 0)):=rfl
@[simp] theorem FH60_0(l k:Nat):aa T 60 (.hp l k) 0=some (.hp l (k + 0)):=rfl
@[simp] theorem FA62_0(cs:List AV):aa T 62 (.ip cs) 0=some (.ip (cs.drop 0)):=rfl
@[simp] theorem FH62_0(l k:Nat):aa T 62 (.hp l k) 0=some (.hp l (k + 0)):=rfl
@[simp] theorem FA62_1(cs:List AV):aa T 62 (.ip cs) 1=some (.ip (cs.drop 1)):=rfl
@[simp] theorem FH62_1(l k:Nat):aa T 62 (.hp l k) 1=some (.hp l (k + 1)):=rfl
@[simp] theorem FA65_0(cs:List AV):aa T 65 (.ip cs) 0=some (.ip (cs.drop 0)):=rfl
@[simp] theorem FH65_0(l k:Nat):aa T 65 (.hp l k) 0=some (.hp l (k + 0)):=rfl
@[simp] theorem FA65_1(cs:List AV):aa T 65 (.ip cs) 1=some (.ip (cs.drop 1)):=rfl
@[simp] theorem FH65_1(l k:Nat):aa T 65 (.hp l k) 1=some (.hp l (k + 1)):=rfl
@[simp] theorem FA69_0(cs:List AV):aa T 69 (.ip cs) 0=some (.ip (cs.drop 0)):=rfl
@[simp] theorem FH69_0(l k:Nat):aa T 69 (.hp l k) 0=some (.hp l (k + 0)):=rfl
@[simp] theorem FA69_1(cs:List AV):aa T 69 (.ip cs) 1=some (.ip (cs.drop 1)):=rfl
@[simp] theorem FH69_1(l k:Nat):aa T 69 (.hp l k) 1=some (.hp l (k + 1)):=rfl
@[simp] theorem FA72_0(cs:List AV):aa T 72 (.ip cs) 0=some (.ip (cs.drop 0)):=rfl
@[simp] theorem FH72_0(l k:Nat):aa T 72 (.hp l k) 0=some (.hp l (k + 0)):=rfl
@[simp] theorem FA72_1(cs:List AV):aa T 72 (.ip cs) 1=some (.ip (cs.drop 1)):=rfl
@[simp] theorem FH72_1(l k:Nat):aa T 72 (.hp l k) 1=some (.hp l (k + 1)):=rfl
@[simp] theorem FA74_0(cs:List AV):aa T 74 (.ip cs) 0=some (.ip (cs.drop 0)):=rfl
@[simp] theorem FH74_0(l k:Nat):aa T 74 (.hp l k) 0=some (.hp l (k + 0)):=rfl
@[simp] theorem FA74_1(cs:List AV):aa T 74 (.ip cs) 1=some (.ip (cs.drop 1)):=rfl
@[simp] theorem FH74_1(l k:Nat):aa T 74 (.hp l k) 1=some (.hp l (k + 1)):=rfl
@[simp] theorem FA74_2(cs:List AV):aa T 74 (.ip cs) 2=some (.ip (cs.drop 2)):=rfl
@[simp] theorem FH74_2(l k:Nat):aa T 74 (.hp l k) 2=some (.hp l (k + 2)):=rfl
@[simp] theorem FA74_3(cs:List AV):aa T 74 (.ip cs) 3=some (.ip (cs.drop 3)):=rfl
@[simp] theorem FH74_3(l k:Nat):aa T 74 (.hp l k) 3=some (.hp l (k + 3)):=rfl
@[simp] theorem FA74_4(cs:List AV):aa T 74 (.ip cs) 4=some (.ip (cs.drop 4)):=rfl
@[simp] theorem FH74_4(l k:Nat):aa T 74 (.hp l k) 4=some (.hp l (k + 4)):=rfl
@[simp] theorem FA74_5(cs:List AV):aa T 74 (.ip cs) 5=some (.ip (cs.drop 5)):=rfl
@[simp] theorem FH74_5(l k:Nat):aa T 74 (.hp l k) 5=some (.hp l (k + 5)):=rfl
@[simp] theorem FA76_0(cs:List AV):aa T 76 (.ip cs) 0=some (.ip (cs.drop 0)):=rfl
@[simp] theorem FH76_0(l k:Nat):aa T 76 (.hp l k) 0=some (.hp l (k + 0)):=rfl
@[simp] theorem FA76_1(cs:List AV):aa T 76 (.ip cs) 1=some (.ip (cs.drop 1)):=rfl
@[simp] theorem FH76_1(l k:Nat):aa T 76 (.hp l k) 1=some (.hp l (k + 1)):=rfl
@[simp] theorem FA76_2(cs:List AV):aa T 76 (.ip cs) 2=some (.ip (cs.drop 2)):=rfl
@[simp] theorem FH76_2(l k:Nat):aa T 76 (.hp l k) 2=some (.hp l (k + 2)):=rfl
@[simp] theorem FA76_3(cs:List AV):aa T 76 (.ip cs) 3=some (.ip (cs.drop 3)):=rfl
@[simp] theorem FH76_3(l k:Nat):aa T 76 (.hp l k) 3=some (.hp l (k + 3)):=rfl
@[simp] theorem FA76_4(cs:List AV):aa T 76 (.ip cs) 4=some (.ip (cs.drop 5)):=rfl
@[simp] theorem FH76_4(l k:Nat):aa T 76 (.hp l k) 4=some (.hp l (k + 5)):=rfl
@[simp] theorem FA76_5(cs:List AV):aa T 76 (.ip cs) 5=some (.ip (cs.drop 6)):=rfl
@[simp] theorem FH76_5(l k:Nat):aa T 76 (.hp l k) 5=some (.hp l (k + 6)):=rfl
@[simp] theorem FA87_0(cs:List AV):aa T 87 (.ip cs) 0=some (.ip (cs.drop 0)):=rfl
@[simp] theorem FH87_0(l k:Nat):aa T 87 (.hp l k) 0=some (.hp l (k + 0)):=rfl
@[simp] theorem FA87_1(cs:List AV):aa T 87 (.ip cs) 1=some (.ip (cs.drop 1)):=rfl
@[simp] theorem FH87_1(l k:Nat):aa T 87 (.hp l k) 1=some (.hp l (k + 1)):=rfl
@[simp] theorem FA91_0(cs:List AV):aa T 91 (.ip cs) 0=some (.ip (cs.drop 0)):=rfl
@[simp] theorem FH91_0(l k:Nat):aa T 91 (.hp l k) 0=some (.hp l (k + 0)):=rfl
@[simp] theorem FA91_1(cs:List AV):aa T 91 (.ip cs) 1=some (.ip (cs.drop 1)):=rfl
@[simp] theorem FH91_1(l k:Nat):aa T 91 (.hp l k) 1=some (.hp l (k + 1)):=rfl
@[simp] theorem FA91_2(cs:List AV):aa T 91 (.ip cs) 2=some (.ip (cs.drop 2)):=rfl
@[simp] theorem FH91_2(l k:Nat):aa T 91 (.hp l k) 2=some (.hp l (k + 2)):=rfl
@[simp] theorem FA91_3(cs:List AV):aa T 91 (.ip cs) 3=some (.ip (cs.drop 3)):=rfl
@[simp] theorem FH91_3(l k:Nat):aa T 91 (.hp l k) 3=some (.hp l (k + 3)):=rfl
@[simp] theorem FA94_1(cs:List AV):aa T 94 (.ip cs) 1=some (.ip (cs.drop 1)):=rfl
@[simp] theorem FH94_1(l k:Nat):aa T 94 (.hp l k) 1=some (.hp l (k + 1)):=rfl
@[simp] theorem FA94_2(cs:List AV):aa T 94 (.ip cs) 2=some (.ip (cs.drop 2)):=rfl
@[simp] theorem FH94_2(l k:Nat):aa T 94 (.hp l k) 2=some (.hp l (k + 2)):=rfl
@[simp] theorem FA94_3(cs:List AV):aa T 94 (.ip cs) 3=some (.ip (cs.drop 3)):=rfl
@[simp] theorem FH94_3(l k:Nat):aa T 94 (.hp l k) 3=some (.hp l (k + 3)):=rfl
@[simp] theorem FA94_4(cs:List AV):aa T 94 (.ip cs) 4=some (.ip (cs.drop 4)):=rfl
@[simp] theorem FH94_4(l k:Nat):aa T 94 (.hp l k) 4=some (.hp l (k + 4)):=rfl
@[simp] theorem FA120_0(cs:List AV):aa T 120 (.ip cs) 0=some (.ip (cs.drop 0)):=rfl
@[simp] theorem FH120_0(l k:Nat):aa T 120 (.hp l k) 0=some (.hp l (k + 0)):=rfl
@[simp] theorem FA120_1(cs:List AV):aa T 120 (.ip cs) 1=some (.ip (cs.drop 9)):=rfl
@[simp] theorem FH120_1(l k:Nat):aa T 120 (.hp l k) 1=some (.hp l (k + 9)):=rfl
@[simp] theorem FA120_2(cs:List AV):aa T 120 (.ip cs) 2=some (.ip (cs.drop 10)):=rfl
@[simp] theorem FH120_2(l k:Nat):aa T 120 (.hp l k) 2=some (.hp l (k + 10)):=rfl
@[simp] theorem FA150_0(cs:List AV):aa T 150 (.ip cs) 0=some (.ip (cs.drop 0)):=rfl
@[simp] theorem FH150_0(l k:Nat):aa T 150 (.hp l k) 0=some (.hp l (k + 0)):=rfl
@[simp] theorem FA150_1(cs:List AV):aa T 150 (.ip cs) 1=some (.ip (cs.drop 1)):=rfl
@[simp] theorem FH150_1(l k:Nat):aa T 150 (.hp l k) 1=some (.hp l (k + 1)):=rfl
@[simp] theorem FA150_2(cs:List AV):aa T 150 (.ip cs) 2=some (.ip (cs.drop 2)):=rfl
@[simp] theorem FH150_2(l k:Nat):aa T 150 (.hp l k) 2=some (.hp l (k + 2)):=rfl
@[simp] theorem FA150_3(cs:List AV):aa T 150 (.ip cs) 3=some (.ip (cs.drop 4)):=rfl
@[simp] theorem FH150_3(l k:Nat):aa T 150 (.hp l k) 3=some (.hp l (k + 4)):=rfl
@[simp] theorem FA177_0(cs:List AV):aa T 177 (.ip cs) 0=some (.ip (cs.drop 0)):=rfl
@[simp] theorem FH177_0(l k:Nat):aa T 177 (.hp l k) 0=some (.hp l (k + 0)):=rfl
@[simp] theorem FA177_1(cs:List AV):aa T 177 (.ip cs) 1=some (.ip (cs.drop 1)):=rfl
@[simp] theorem FH177_1(l k:Nat):aa T 177 (.hp l k) 1=some (.hp l (k + 1)):=rfl
@[simp] theorem FA177_2(cs:List AV):aa T 177 (.ip cs) 2=some (.ip (cs.drop 2)):=rfl
@[simp] theorem FH177_2(l k:Nat):aa T 177 (.hp l k) 2=some (.hp l (k + 2)):=rfl
@[simp] theorem FA240_0(cs:List AV):aa T 240 (.ip cs) 0=some (.ip (cs.drop 0)):=rfl
@[simp] theorem FH240_0(l k:Nat):aa T 240 (.hp l k) 0=some (.hp l (k + 0)):=rfl
@[simp] theorem FA240_1(cs:List AV):aa T 240 (.ip cs) 1=some (.ip (cs.drop 1)):=rfl
@[simp] theorem FH240_1(l k:Nat):aa T 240 (.hp l k) 1=some (.hp l (k + 1)):=rfl
@[simp] theorem FA240_2(cs:List AV):aa T 240 (.ip cs) 2=some (.ip (cs.drop 2)):=rfl
@[simp] theorem FH240_2(l k:Nat):aa T 240 (.hp l k) 2=some (.hp l (k + 2)):=rfl
@[simp] theorem FA240_3(cs:List AV):aa T 240 (.ip cs) 3=some (.ip (cs.drop 3)):=rfl
@[simp] theorem FH240_3(l k:Nat):aa T 240 (.hp l k) 3=some (.hp l (k + 3)):=rfl
@[simp] theorem FA240_4(cs:List AV):aa T 240 (.ip cs) 4=some (.ip (cs.drop 4)):=rfl
@[simp] theorem FH240_4(l k:Nat):aa T 240 (.hp l k) 4=some (.hp l (k + 4)):=rfl
@[simp] theorem FA269_0(cs:List AV):aa T 269 (.ip cs) 0=some (.ip (cs.drop 0)):=rfl
@[simp] theorem FH269_0(l k:Nat):aa T 269 (.hp l k) 0=some (.hp l (k + 0)):=rfl
@[simp] theorem FA269_1(cs:List AV):aa T 269 (.ip cs) 1=some (.ip (cs.drop 1)):=rfl
@[simp] theorem FH269_1(l k:Nat):aa T 269 (.hp l k) 1=some (.hp l (k + 1)):=rfl
@[simp] theorem FA269_2(cs:List AV):aa T 269 (.ip cs) 2=some (.ip (cs.drop 2)):=rfl
@[simp] theorem FH269_2(l k:Nat):aa T 269 (.hp l k) 2=some (.hp l (k + 2)):=rfl
@[simp] theorem FA272_0(cs:List AV):aa T 272 (.ip cs) 0=some (.ip (cs.drop 0)):=rfl
@[simp] theorem FH272_0(l k:Nat):aa T 272 (.hp l k) 0=some (.hp l (k + 0)):=rfl
@[simp] theorem FA272_1(cs:List AV):aa T 272 (.ip cs) 1=some (.ip (cs.drop 3)):=rfl
@[simp] theorem FH272_1(l k:Nat):aa T 272 (.hp l k) 1=some (.hp l (k + 3)):=rfl
@[simp] theorem LD3(x:AV)(l:List AV):aj T 3 (.ip (x:: l))=some x:=rfl
@[simp] theorem LD4(x:AV)(l:List AV):aj T 4 (.ip (x:: l))=some x:=rfl
@[simp] theorem LD9(x:AV)(l:List AV):aj T 9 (.ip (x:: l))=some x:=rfl
@[simp] theorem LD22(x:AV)(l:List AV):aj T 22 (.ip (x:: l))=some x:=rfl
@[simp] theorem LD23(x:AV)(l:List AV):aj T 23 (.ip (x:: l))=some x:=rfl
@[simp] theorem LD24(x:AV)(l:List AV):aj T 24 (.ip (x:: l))=some x:=rfl
@[simp] theorem LD25(x:AV)(l:List AV):aj T 25 (.ip (x:: l))=some x:=rfl
@[simp] theorem LD29(cs:List AV):aj T 29 (.ip cs)=if 9≤cs.length then some (.agg (cs.take 9)) else none:=rfl
@[simp] theorem LD33(x:AV)(l:List AV):aj T 33 (.ip (x:: l))=some x:=rfl
@[simp] theorem LD42(x:AV)(l:List AV):aj T 42 (.ip (x:: l))=some x:=rfl
@[simp] theorem LD43(x:AV)(l:List AV):aj T 43 (.ip (x:: l))=some x:=rfl
@[simp] theorem LD44(x:AV)(l:List AV):aj T 44 (.ip (x:: l))=some x:=rfl
@[simp] theorem LD47(x:AV)(l:List AV):aj T 47 (.ip (x:: l))=some x:=rfl
@[simp] theorem LD49(cs:List AV):aj T 49 (.ip cs)=if 3≤cs.length then some (.agg (cs.take 3)) else none:=rfl
@[simp] theorem LD51(cs:List AV):aj T 51 (.ip cs)=if 4≤cs.length then some (.agg (cs.take 4)) else none:=rfl
@[simp] theorem LD52(x:AV)(l:List AV):aj T 52 (.ip (x:: l))=some x:=rfl
@[simp] theorem LD53(x:AV)(l:List AV):aj T 53 (.ip (x:: l))=some x:=rfl
@[simp] theorem LD55(cs:List AV):aj T 55 (.ip cs)=if 8≤cs.length then some (.agg (cs.take 8)) else none:=rfl
@[simp] theorem LD60(cs:List AV):aj T 60 (.ip cs)=if 3≤cs.length then some (.agg (cs.take 3)) else none:=rfl
@[simp] theorem LD62(cs:List AV):aj T 62 (.ip cs)=if 2≤cs.length then some (.agg (cs.take 2)) else none:=rfl
@[simp] theorem LD65(cs:List AV):aj T 65 (.ip cs)=if 2≤cs.length then some (.agg (cs.take 2)) else none:=rfl
@[simp] theorem LD67(x:AV)(l:List AV):aj T 67 (.ip (x:: l))=some x:=rfl
@[simp] theorem LD69(cs:List AV):aj T 69 (.ip cs)=if 2≤cs.length then some (.agg (cs.take 2)) else none:=rfl
@[simp] theorem LD72(cs:List AV):aj T 72 (.ip cs)=if 2≤cs.length then some (.agg (cs.take 2)) else none:=rfl
@[simp] theorem LD74(cs:List AV):aj T 74 (.ip cs)=if 6≤cs.length then some (.agg (cs.take 6)) else none:=rfl
@[simp] theorem LD76(cs:List AV):aj T 76 (.ip cs)=if 12≤cs.length then some (.agg (cs.take 12)) else none:=rfl
@[simp] theorem LD87(cs:List AV):aj T 87 (.ip cs)=if 3≤cs.length then some (.agg (cs.take 3)) else none:=rfl
@[simp] theorem LD89(x:AV)(l:List AV):aj T 89 (.ip (x:: l))=some x:=rfl
@[simp] theorem LD91(cs:List AV):aj T 91 (.ip cs)=if 4≤cs.length then some (.agg (cs.take 4)) else none:=rfl
@[simp] theorem LD92(x:AV)(l:List AV):aj T 92 (.ip (x:: l))=some x:=rfl
@[simp] theorem LD94(cs:List AV):aj T 94 (.ip cs)=if 10≤cs.length then some (.agg (cs.take 10)) else none:=rfl
@[simp] theorem LD118(x:AV)(l:List AV):aj T 118 (.ip (x:: l))=some x:=rfl
@[simp] theorem LD148(x:AV)(l:List AV):aj T 148 (.ip (x:: l))=some x:=rfl
@[simp] theorem LD150(cs:List AV):aj T 150 (.ip cs)=if 5≤cs.length then some (.agg (cs.take 5)) else none:=rfl
@[simp] theorem LD158(x:AV)(l:List AV):aj T 158 (.ip (x:: l))=some x:=rfl
@[simp] theorem LD160(x:AV)(l:List AV):aj T 160 (.ip (x:: l))=some x:=rfl
@[simp] theorem LD177(cs:List AV):aj T 177 (.ip cs)=if 3≤cs.length then some (.agg (cs.take 3)) else none:=rfl
@[simp] theorem LD238(x:AV)(l:List AV):aj T 238 (.ip (x:: l))=some x:=rfl
@[simp] theorem LD269(cs:List AV):aj T 269 (.ip cs)=if 3≤cs.length then some (.agg (cs.take 3)) else none:=rfl
@[simp] theorem LD272(cs:List AV):aj T 272 (.ip cs)=if 6≤cs.length then some (.agg (cs.take 6)) else none:=rfl
@[simp] theorem LD311(x:AV)(l:List AV):aj T 311 (.ip (x:: l))=some x:=rfl
@[simp] theorem Oh(s:aW):aJ T 9 (.str s)=some (.int .i64 s.length):=rfl
@[simp] theorem LL(es:List AV):aJ T 22 (.sl es)=some (.int .i64 es.length):=rfl
@[simp] theorem OL:aJ T 22 .hn=some (.int .i64 0):=rfl
@[simp] theorem Ow(l k n s:Nat)(a:Bool):aJ T 22 (.hs l k n s a)=some (.int .i64 n):=rfl
@[simp] theorem CH(l:List aW):aJ T 22 (strs l)=some (.int .i64 l.length):=(LL _).trans (by simp)
@[simp] theorem Hy(es:List AV):aJ T 23 (.sl es)=some (.int .i64 es.length):=rfl
@[simp] theorem OM:aJ T 23 .hn=some (.int .i64 0):=rfl
@[simp] theorem IF(l k n s:Nat)(a:Bool):aJ T 23 (.hs l k n s a)=some (.int .i64 n):=rfl
@[simp] theorem IB(l:List cr):aJ T 23 (aH l)=some (.int .i64 l.length):=(Hy _).trans (by simp[dn])
@[simp] theorem LM(es:List AV):aJ T 24 (.sl es)=some (.int .i64 es.length):=rfl
@[simp] theorem ON:aJ T 24 .hn=some (.int .i64 0):=rfl
@[simp] theorem Ox(l k n s:Nat)(a:Bool):aJ T 24 (.hs l k n s a)=some (.int .i64 n):=rfl
@[simp] theorem IC(l:List Exp):aJ T 24 (cG l)=some (.int .i64 l.length):=(LM _).trans (by simp[iz])
@[simp] theorem LN(es:List AV):aJ T 25 (.sl es)=some (.int .i64 es.length):=rfl
@[simp] theorem OO:aJ T 25 .hn=some (.int .i64 0):=rfl
@[simp] theorem Oy(l k n s:Nat)(a:Bool):aJ T 25 (.hs l k n s a)=some (.int .i64 n):=rfl
@[simp] theorem ID(l:List Fun):aJ T 25 (eQ l)=some (.int .i64 l.length):=(LN _).trans (by simp)
@[simp] theorem LO(es:List AV):aJ T 30 (.sl es)=some (.int .i64 es.length):=rfl
@[simp] theorem OP:aJ T 30 .hn=some (.int .i64 0):=rfl
@[simp] theorem Oz(l k n s:Nat)(a:Bool):aJ T 30 (.hs l k n s a)=some (.int .i64 n):=rfl
@[simp] theorem IE(l:List Face):aJ T 30 (faces l)=some (.int .i64 l.length):=(LO _).trans (by simp)
@[simp] theorem LP(es:List AV):aJ T 42 (.sl es)=some (.int .i64 es.length):=rfl
@[simp] theorem OQ:aJ T 42 .hn=some (.int .i64 0):=rfl
@[simp] theorem OA(l k n s:Nat)(a:Bool):aJ T 42 (.hs l k n s a)=some (.int .i64 n):=rfl
@[simp] theorem Oi(l:List Mod):aJ T 42 (mods l)=some (.int .i64 l.length):=(LP _).trans (by simp)
@[simp] theorem LQ(es:List AV):aJ T 43 (.sl es)=some (.int .i64 es.length):=rfl
@[simp] theorem OR:aJ T 43 .hn=some (.int .i64 0):=rfl
@[simp] theorem OB(l k n s:Nat)(a:Bool):aJ T 43 (.hs l k n s a)=some (.int .i64 n):=rfl
@[simp] theorem Oj(l:List Ap.Call):aJ T 43 (Ap.calls l)=some (.int .i64 l.length):=(LQ _).trans (by simp)
@[simp] theorem LR(es:List AV):aJ T 44 (.sl es)=some (.int .i64 es.length):=rfl
@[simp] theorem OS:aJ T 44 .hn=some (.int .i64 0):=rfl
@[simp] theorem OC(l k n s:Nat)(a:Bool):aJ T 44 (.hs l k n s a)=some (.int .i64 n):=rfl
@[simp] theorem Ol(l:List Int):aJ T 44 (ints l)=some (.int .i64 l.length):=(LR _).trans (by simp)
@[simp] theorem LS(es:List AV):aJ T 47 (.sl es)=some (.int .i64 es.length):=rfl
@[simp] theorem OT:aJ T 47 .hn=some (.int .i64 0):=rfl
@[simp] theorem OD(l k n s:Nat)(a:Bool):aJ T 47 (.hs l k n s a)=some (.int .i64 n):=rfl
@[simp] theorem Om(l:List Val):aJ T 47 (vals l)=some (.int .i64 l.length):=(LS _).trans (by simp[mu])
@[simp] theorem LU(es:List AV):aJ T 52 (.sl es)=some (.int .i64 es.length):=rfl
@[simp] theorem OU:aJ T 52 .hn=some (.int .i64 0):=rfl
@[simp] theorem OE(l k n s:Nat)(a:Bool):aJ T 52 (.hs l k n s a)=some (.int .i64 n):=rfl
@[simp] theorem On(l:List Deed):aJ T 52 (deeds l)=some (.int .i64 l.length):=(LU _).trans (by simp)
@[simp] theorem LV(es:List AV):aJ T 53 (.sl es)=some (.int .i64 es.length):=rfl
@[simp] theorem OV:aJ T 53 .hn=some (.int .i64 0):=rfl
@[simp] theorem OG(l k n s:Nat)(a:Bool):aJ T 53 (.hs l k n s a)=some (.int .i64 n):=rfl
@[simp] theorem Oo(l:List Vars):aJ T 53 (px l)=some (.int .i64 l.length):=(LV _).trans (by simp)
@[simp] theorem LW(es:List AV):aJ T 67 (.sl es)=some (.int .i64 es.length):=rfl
@[simp] theorem OW:aJ T 67 .hn=some (.int .i64 0):=rfl
@[simp] theorem OH(l k n s:Nat)(a:Bool):aJ T 67 (.hs l k n s a)=some (.int .i64 n):=rfl
@[simp] theorem Oq(l:List Sig):aJ T 67 (sigs l)=some (.int .i64 l.length):=(LW _).trans (by simp)
@[simp] theorem LX(es:List AV):aJ T 79 (.sl es)=some (.int .i64 es.length):=rfl
@[simp] theorem OX:aJ T 79 .hn=some (.int .i64 0):=rfl
@[simp] theorem OI(l k n s:Nat)(a:Bool):aJ T 79 (.hs l k n s a)=some (.int .i64 n):=rfl
@[simp] theorem Ot(l:List aD):aJ T 79 (aU l)=some (.int .i64 l.length):=(LX _).trans (by simp)
@[simp] theorem LY(es:List AV):aJ T 89 (.sl es)=some (.int .i64 es.length):=rfl
@[simp] theorem OY:aJ T 89 .hn=some (.int .i64 0):=rfl
@[simp] theorem OJ(l k n s:Nat)(a:Bool):aJ T 89 (.hs l k n s a)=some (.int .i64 n):=rfl
@[simp] theorem Ou(l:List Ver):aJ T 89 (vt l)=some (.int .i64 l.length):=(LY _).trans (by simp)
@[simp] theorem LZ(es:List AV):aJ T 92 (.sl es)=some (.int .i64 es.length):=rfl
@[simp] theorem OZ:aJ T 92 .hn=some (.int .i64 0):=rfl
@[simp] theorem OK(l k n s:Nat)(a:Bool):aJ T 92 (.hs l k n s a)=some (.int .i64 n):=rfl
@[simp] theorem Ov(l:List Rng):aJ T 92 (uT l)=some (.int .i64 l.length):=(LZ _).trans (by simp)
@[simp] theorem Iz(es:List AV):aJ T 148 (.sl es)=some (.int .i64 es.length):=rfl
@[simp] theorem NX:aJ T 148 .hn=some (.int .i64 0):=rfl
@[simp] theorem NV(l k n s:Nat)(a:Bool):aJ T 148 (.hs l k n s a)=some (.int .i64 n):=rfl
@[simp] theorem NT(l:List Ty):aJ T 148 (gn l)=some (.int .i64 l.length):=(Iz _).trans (by simp)
@[simp] theorem IA(es:List AV):aJ T 181 (.sl es)=some (.int .i64 es.length):=rfl
@[simp] theorem NY:aJ T 181 .hn=some (.int .i64 0):=rfl
@[simp] theorem NW(l k n s:Nat)(a:Bool):aJ T 181 (.hs l k n s a)=some (.int .i64 n):=rfl
@[simp] theorem NU(l:List Seen):aJ T 181 (AX l)=some (.int .i64 l.length):=(IA _).trans (by simp)
theorem vA{l:List aW}{n:Int}(h0:0≤n)(h:n < (l.length:Int)):ak T 22 (strs l) (.int .i64 n)=some (.ip (ab (AV.str l[n.toNat]!))):=cb (T:=T) (t:=22) (e:=9) rfl rfl rfl (fun _=>by first | rfl | (simp;done) | (simp;rfl)) h0 h
theorem pz{l:List cr}{n:Int}(h0:0≤n)(h:n < (l.length:Int)):ak T 23 (aH l) (.int .i64 n)=some (.ip (ab (bj l[n.toNat]!))):=by rw[aH,dn];exact cb (T:=T) (t:=23) (e:=87) rfl rfl rfl (fun _=>by first | rfl | (simp;done) | (simp;rfl)) h0 h
theorem pB{l:List Exp}{n:Int}(h0:0≤n)(h:n < (l.length:Int)):ak T 24 (cG l) (.int .i64 n)=some (.ip (ab (Exp.av l[n.toNat]!))):=by rw[cG,iz];exact cb (T:=T) (t:=24) (e:=74) rfl rfl rfl (fun _=>by first | rfl | (simp;done) | (simp;rfl)) h0 h
theorem vB{l:List Fun}{n:Int}(h0:0≤n)(h:n < (l.length:Int)):ak T 25 (eQ l) (.int .i64 n)=some (.ip (ab (Fun.av l[n.toNat]!))):=cb (T:=T) (t:=25) (e:=76) rfl rfl rfl (fun _=>by first | rfl | (simp;done) | (simp;rfl)) h0 h
theorem Og{l:List Face}{n:Int}(h0:0≤n)(h:n < (l.length:Int)):ak T 30 (faces l) (.int .i64 n)=some (.ip (ab (Face.av l[n.toNat]!))):=cb (T:=T) (t:=30) (e:=69) rfl rfl rfl (fun _=>by first | rfl | (simp;done) | (simp;rfl)) h0 h
theorem tX{l:List Mod}{n:Int}(h0:0≤n)(h:n < (l.length:Int)):ak T 42 (mods l) (.int .i64 n)=some (.ip (ab (Mod.av l[n.toNat]!))):=cb (T:=T) (t:=42) (e:=29) rfl rfl rfl (fun _=>by first | rfl | (simp;done) | (simp;rfl)) h0 h
theorem LK{l:List Int}{n:Int}(h0:0≤n)(h:n < (l.length:Int)):ak T 44 (ints l) (.int .i64 n)=some (.ip (ab (AV.int .i64 l[n.toNat]!))):=cb (T:=T) (t:=44) (e:=3) rfl rfl rfl (fun _=>by first | rfl | (simp;done) | (simp;rfl)) h0 h
theorem Iy{l:List Sig}{n:Int}(h0:0≤n)(h:n < (l.length:Int)):ak T 67 (sigs l) (.int .i64 n)=some (.ip (ab (Sig.av l[n.toNat]!))):=cb (T:=T) (t:=67) (e:=150) rfl rfl rfl (fun _=>by first | rfl | (simp;done) | (simp;rfl)) h0 h
theorem FZ{l:List aD}{n:Int}(h0:0≤n)(h:n < (l.length:Int)):ak T 79 (aU l) (.int .i64 n)=some (.ip (ab (aP l[n.toNat]!))):=cb (T:=T) (t:=79) (e:=65) rfl rfl rfl (fun _=>by first | rfl | (simp;done) | (simp;rfl)) h0 h
theorem oJ{l:List Ty}{n:Int}(h0:0≤n)(h:n < (l.length:Int)):ak T 148 (gn l) (.int .i64 n)=some (.ip (ab (Ty.av l[n.toNat]!))):=cb (T:=T) (t:=148) (e:=72) rfl rfl rfl (fun _=>by first | rfl | (simp;done) | (simp;rfl)) h0 h
theorem Iw{a b:List cr}(h:(a.length + b.length) * 48≤140737488355328):dL T 23 (aH a) (aH b)=some (aH (a++b)):=by
 have:=mC (T:=T) (t:=23) (e:=87) rfl rfl rfl (f:=bj) (fun _=>by first | rfl | (simp;done) | (simp;rfl)) (a:=a) (b:=b) h (by decide)
 simpa [aH,dn] using this
theorem Od{a b:List Face}(h:(a.length + b.length) * 40≤140737488355328):dL T 30 (faces a) (faces b)=some (faces (a++b)):=by
 have:=mC (T:=T) (t:=30) (e:=69) rfl rfl rfl (f:=Face.av) (fun _=>by first | rfl | (simp;done) | (simp;rfl)) (a:=a) (b:=b) h (by decide)
 simpa [faces] using this
theorem Oe{a b:List aD}(h:(a.length + b.length) * 32≤140737488355328):dL T 79 (aU a) (aU b)=some (aU (a++b)):=by
 have:=mC (T:=T) (t:=79) (e:=65) rfl rfl rfl (f:=aP) (fun _=>by first | rfl | (simp;done) | (simp;rfl)) (a:=a) (b:=b) h (by decide)
 simpa [aU] using this
theorem CF{a b:List Ty}(h:(a.length + b.length) * 32≤140737488355328):dL T 148 (gn a) (gn b)=some (gn (a++b)):=by
 have:=mC (T:=T) (t:=148) (e:=72) rfl rfl rfl (f:=Ty.av) (fun _=>by first | rfl | (simp;done) | (simp;rfl)) (a:=a) (b:=b) h (by decide)
 simpa [gn] using this
theorem MY(a b:aD):wg T 20 65 (aP a) (aP b)=some (decide (a=b)):=by
 obtain⟨a1,a2⟩:=a
 obtain⟨b1,b2⟩:=b
 have h:wg T 20 65 (aP (a1,a2)) (aP (b1,b2))=(match some (a1== b1) with | some true=>(match some (a2== b2) with | some true=>some true | some false=>some false | none=>none) | some false=>some false | none=>none):=rfl
 rw[h]
 by_cases h1:a1=b1
 ·by_cases h2:a2=b2
  ·subst h1 h2;simp
  ·have e2:(a2== b2)=false:=beq_eq_false_iff_ne.2 h2
   subst h1
   simp[e2,h2]
 ·have e1:(a1== b1)=false:=beq_eq_false_iff_ne.2 h1
  simp[e1,h1]
def uO{V:Type}:List (aD×V)→aD→Nat→Option (Nat×V)
 | [],_,_=>none
 | x:: r,k,i=>if x.1=k then some (i,x.2) else uO r k (i + 1)
theorem qD{V:Type}(f:V→AV):∀(l:List (aD×V))(k:aD)(i:Nat),cV T 65 (aP k) (l.map (bV f)) i=some ((uO l k i).map fun p=>(p.1,aP k,f p.2))
 | [],k,i=>rfl
 | x:: r,k,i=>by
  simp only[List.map_cons,bV,cV,MY,uO]
  by_cases h:k=x.1
  ·subst h;simp
  ·have h':¬ (x.1=k):=fun e=>h e.symm
   simp only[h,decide_false,h',if_false]
   exact qD f r k (i + 1)
theorem xx{V:Type}:∀(l:List (aD×V))(k:aD)(i:Nat),(uO l k i).map (·.2)=eu l k
 | [],_,_=>rfl
 | x:: r,k,i=>by
  simp only[uO,eu]
  by_cases h:x.1=k
  ·simp[h]
  ·simp only[h,if_false];exact xx r k (i + 1)
theorem xy{V:Type}(v:V):∀(l:List (aD×V))(k:aD)(i:Nat),(uO l k i=none∧gB l k v=l++[(k,v)])∨∃ j u,uO l k i=some (i + j,u)∧j < l.length∧gB l k v=l.set j (k,v)
 | [],k,i=>.inl ⟨rfl,rfl⟩
 | x:: r,k,i=>by
  simp only[uO,gB]
  by_cases h:x.1=k
  ·exact .inr ⟨0,x.2,by simp[h],by simp,by simp[h]⟩
  ·simp only[h,if_false]
   rcases xy v r k (i + 1) with ⟨h1,h2⟩ | ⟨j,u,h1,h2,h3⟩
   ·exact .inl ⟨h1,by rw[h2];rfl⟩
   ·exact .inr ⟨j + 1,u,by rw[h1];congr 2;omega,by simpa using h2,by rw[h3];rfl⟩
theorem AO{V:Type}(f:V→AV)(l:List (aD×V))(k:aD)(v:V):ou T 65 (l.map (bV f)) (aP k) (f v)=some ((gB l k v).map (bV f)):=by
 unfold ou
 rw[qD]
 rcases xy v l k 0 with ⟨h1,h2⟩ | ⟨j,u,h1,h2,h3⟩
 ·rw[h1,h2];simp[bV]
 ·rw[h1,h3]
  have hs:xJ (aP k) (aP k)=true:=by
   show (k.1== k.1&&(k.2== k.2&&true))=true
   rw[beq_self_eq_true,beq_self_eq_true];rfl
  simp only[Option.map_some,hs,cond_true,Nat.zero_add,List.map_set]
  rfl
theorem EO{V:Type}(f:V→AV){t et:Nat}{ei:TI}(hm:fP T t=some (65,et))(he:T et=some ei)(l:List (aD×V))(k:aD)(ok:Bool):
  jo T t (l.map (bV f)) (aP k) ok=some (match eu l k with | some v=>(bif ok then .tup [f v,.bool true] else f v) | none=>(bif ok then .tup [eK ei,.bool false] else eK ei)):=by
 unfold jo
 have hc:vV T 20 65 (aP k)=true:=rfl
 simp only[hm,hc,cond_true,he,qD]
 rw[← xx l k 0]
 cases uO l k 0 <;> rfl
def pp(n:aW):AV:=.tup [.str n,.bool true]
theorem PW(a b:aW):wg T 20 9 (.str a) (.str b)=some (a== b):=rfl
theorem nQ:∀(l:List aW)(n:aW)(i:Nat),∃ r,cV T 9 (.str n) (l.map pp) i=some r∧((n∈l∧∃ j,r=some (j,.str n,.bool true))∨(n ∉ l∧r=none))
 | [],n,i=>⟨none,rfl,.inr ⟨by simp,rfl⟩⟩
 | x:: l,n,i=>by
  simp only[List.map_cons,pp,cV,PW]
  by_cases h:n=x
  ·subst h
   exact⟨_,by simp,.inl ⟨by simp,i,rfl⟩⟩
  ·have e:(n== x)=false:=beq_eq_false_iff_ne.2 h
   rw[e]
   obtain⟨r,h1,h2⟩:=nQ l n (i + 1)
   refine⟨r,h1,?_⟩
   rcases h2 with ⟨h2,h3⟩ | ⟨h2,h3⟩
   ·exact .inl ⟨by simp[h2],h3⟩
   ·exact .inr ⟨by simp[h,h2],h3⟩
theorem Cc(l:List aW)(n:aW):jo T 125 (l.map pp) (.str n) false=some (.bool (decide (n∈l))):=by
 unfold jo
 have hm:fP T 125=some (9,4):=rfl
 have hc:vV T 20 9 (.str n)=true:=rfl
 have hz:∃ ei,T 4=some ei∧eK ei= .bool false:=⟨_,rfl,rfl⟩
 obtain⟨ei,hz1,hz2⟩:=hz
 obtain⟨r,h1,h2⟩:=nQ l n 0
 simp only[hm,hc,cond_true,hz1,h1]
 rcases h2 with ⟨h2,j,rfl⟩ | ⟨h2,rfl⟩
 ·simp[h2]
 ·simp[h2,hz2]
theorem Fa(l:List aW)(n:aW)(h:n ∉ l):ou T 9 (l.map pp) (.str n) (.bool true)=some ((l++[n]).map pp):=by
 unfold ou
 obtain⟨r,h1,h2⟩:=nQ l n 0
 rcases h2 with ⟨h2,_⟩ | ⟨_,rfl⟩
 ·exact absurd h2 h
 ·rw[h1];simp[pp]
theorem EU:fP T 160=some (65,76):=rfl
theorem xd:fP T 158=some (65,65):=rfl
theorem Nk:fP T 311=some (65,4):=rfl
theorem Nj:fP T 125=some (9,4):=rfl
end Go.Proofs.YtkkabinknmldeaaGreat
namespace Go.Proofs.YtkkabinknmldeaaGreat
open Go Go.Av
set_option maxRecDepth 1000000
instance dr0:Dr:=⟨False⟩
theorem uL{p:Prop}(h:Dr.on):p:=False.elim h
theorem Lc:(tab.map fun x=>Ld Tryz.prog x.1)=tab.map fun x=>some x.2:=by kernel_rfl
theorem ta:(l:List (Nat×TI))→(t:Nat)→(ti:TI)→Ao l t=some ti→(t,ti)∈l
 | [],t,ti,h=>by cases h
 | (k,x):: r,t,ti,h=>by
  simp only[Ao] at h
  cases hk:Nat.beq k t with
  | true=>
   rw[hk] at h
   simp only[cond_true,Option.some.injEq] at h
   have:=Nat.eq_of_beq_eq_true hk
   subst this h
   exact List.mem_cons_self
  | false=>
   rw[hk] at h
   exact List.mem_cons_of_mem _ (ta r t ti h)
theorem fX{α β:Type}{f g:α→β}:{l:List α} →l.map f=l.map g→∀ x∈l,f x=g x
 | [],_,x,hx=>by cases hx
 | a:: l,h,x,hx=>by
  simp only[List.map_cons,List.cons.injEq] at h
  rcases List.mem_cons.1 hx with rfl | hx
  ·exact h.1
  ·exact fX h.2 x hx
theorem tok:TOK Tryz.prog T:=⟨fun t ti h=>fX Lc (t,ti) (ta tab t ti h),by kernel_rfl⟩
theorem vj:(mo.map fun x=>Tryz.prog.funcs[x.1]?)=mo.map fun x=>some x.2.1:=by kernel_rfl
theorem mq:(mo.map fun x=>x.2.1.name== "runtime.NumGoroutine")=mo.map fun _=>false:=by kernel_rfl
theorem nP:(l:List (Nat×(Func×Ann)))→(t:Nat)→(x:Func×Ann)→qB l t=some x→(t,x)∈l
 | [],t,ti,h=>by cases h
 | (k,x):: r,t,ti,h=>by
  simp only[qB] at h
  cases hk:Nat.beq k t with
  | true=>
   rw[hk] at h
   simp only[cond_true,Option.some.injEq] at h
   have:=Nat.eq_of_beq_eq_true hk
   subst this h
   exact List.mem_cons_self
  | false=>
   rw[hk] at h
   exact List.mem_cons_of_mem _ (nP r t ti h)
theorem qL:∀ f fn a,pg.funcs f=some (fn,a)→Tryz.prog.funcs[f]? = some fn∧(fn.name== "runtime.NumGoroutine")=false:=by
 intro f fn a h
 have:=nP mo f (fn,a) h
 exact⟨fX vj _ this,fX mq _ this⟩
end Go.Proofs.YtkkabinknmldeaaGreat
namespace Go.Proofs.YtkkabinknmldeaaGreat
open Go Go.Av Go.Av.Ap Go.RowKit Go.Shelf
attribute [local go_sem] Oper.semAt_some
set_option maxRecDepth 100000
structure M9 where
 n:ByteArray
 a1:Value
 a2:Value
 a3:Value
 a4:Value
 a5:Value
 a6:Value
 a7:Value
 a8:Value
instance:Inhabited M9:=⟨⟨⟨#[]⟩,undef,undef,undef,undef,undef,undef,undef,undef⟩⟩
def pQ(W:World)(b off:Nat)(zs:List M9):Prop:=∀ j,j < zs.length→W.cell? ⟨b,off + j * 9,none⟩=some (.string (zs[j]?.getD default).n)∧W.cell? ⟨b,off + j * 9 + 1,none⟩=some (zs[j]?.getD default).a1∧W.cell? ⟨b,off + j * 9 + 2,none⟩=some (zs[j]?.getD default).a2∧W.cell? ⟨b,off + j * 9 + 3,none⟩=some (zs[j]?.getD default).a3∧W.cell? ⟨b,off + j * 9 + 4,none⟩=some (zs[j]?.getD default).a4∧W.cell? ⟨b,off + j * 9 + 5,none⟩=some (zs[j]?.getD default).a5∧W.cell? ⟨b,off + j * 9 + 6,none⟩=some (zs[j]?.getD default).a6∧W.cell? ⟨b,off + j * 9 + 7,none⟩=some (zs[j]?.getD default).a7∧W.cell? ⟨b,off + j * 9 + 8,none⟩=some (zs[j]?.getD default).a8
theorem pQ.keep{n₀ bo:Nat}{A B:World}(h:dZ n₀ bo A B){b off:Nat}(hb:b < n₀)(hn:b≠bo){zs:List M9}(c:pQ A b off zs):pQ B b off zs:=fun j hj=>by
 have:=c j hj
 simpa only[h.cell hb hn] using this
section
variable (S:au) (β:List bn)
def pR(v:Value):Prop:=∃ p l c,v= .slice p l c
def FY(y:aW×AV)(z:F12):Prop:=z.n.data.toList=y.1∧VR S β y.2 z.v∧(∃ p,z.a1= .bool p)∧pR z.a2∧(∃ k,z.a3= .int .i64 k)∧pR z.a4∧(∃ k,z.a5= .int .i64 k)∧(∃ k,z.a6= .int .i64 k)∧(∃ k,z.a7= .int .i64 k)∧(∃ x,z.a8= .string x)∧(∃ x,z.a9= .string x)∧pR z.a10∧pR z.a11
def iR:List (aW×AV)→List F12→Prop
 | [],zs=>zs=[]
 | y:: l,zs=>∃ z r,zs=z:: r∧FY S β y z∧iR l r
def L0(w:World)(m:aW×List (aW×AV))(z:M9):Prop:=z.n.data.toList=m.1∧∃ zs,iR S β m.2 zs∧i9 w.heap.size w.heap.size w z.a4 zs∧pR z.a4∧pR z.a1∧pR z.a2∧pR z.a3∧(∃ p,z.a5= .bool p)∧pR z.a6∧pR z.a7∧pR z.a8
def jg(w:World):List (aW×List (aW×AV))→List M9→Prop
 | [],zs=>zs=[]
 | m:: l,zs=>∃ z r,zs=z:: r∧L0 S β w m z∧jg w l r
end
theorem iR.length{S:au}{β:List bn}:{l:List (aW×AV)} →{zs:List F12} →iR S β l zs→zs.length=l.length
 | [],_,h=>by simp only[iR] at h;simp[h]
 | y:: l,zs,h=>by
  simp only[iR] at h
  obtain⟨z,r,rfl,_,h⟩:=h
  simp[iR.length h]
theorem iR.get{S:au}{β:List bn}:{l:List (aW×AV)} →{zs:List F12} →iR S β l zs→∀ {i:Nat},i < l.length→∃ y,l[i]? = some y∧FY S β y (zs[i]?.getD default)
 | [],_,_,i,hi=>by simp at hi
 | y:: l,zs,h,i,hi=>by
  simp only[iR] at h
  obtain⟨z,r,rfl,h1,h⟩:=h
  cases i with
  | zero=>exact⟨y,rfl,by simpa using h1⟩
  | succ i=>simpa using iR.get h (i:=i) (by simpa using hi)
theorem jg.length{S:au}{β:List bn}{w:World}:{l:List (aW×List (aW×AV))} →{zs:List M9} →jg S β w l zs→zs.length=l.length
 | [],_,h=>by simp only[jg] at h;simp[h]
 | y:: l,zs,h=>by
  simp only[jg] at h
  obtain⟨z,r,rfl,_,h⟩:=h
  simp[jg.length h]
theorem jg.get{S:au}{β:List bn}{w:World}:{l:List (aW×List (aW×AV))} →{zs:List M9} →jg S β w l zs→∀ {i:Nat},i < l.length→∃ y,l[i]? = some y∧L0 S β w y (zs[i]?.getD default)
 | [],_,_,i,hi=>by simp at hi
 | y:: l,zs,h,i,hi=>by
  simp only[jg] at h
  obtain⟨z,r,rfl,h1,h⟩:=h
  cases i with
  | zero=>exact⟨y,rfl,by simpa using h1⟩
  | succ i=>simpa using jg.get h (i:=i) (by simpa using hi)
def eU(S:au)(β:List bn)(W:World)(b:Nat)(es:List AV):Prop:=MapAt S β W b es
theorem eU.kept{S:au}{β:List bn}{W W':World}{b:Nat}{es:List AV}(h:eU S β W b es)(hb:W'.heap[b]? = W.heap[b]?):eU S β W' b es:=by
 obtain⟨ents,clock,h1,h2,h3⟩:=h
 exact⟨ents,clock,hb.trans h1,h2,h3⟩
theorem eU.lt{S:au}{β:List bn}{W:World}{b:Nat}{es:List AV}(h:eU S β W b es):b < W.heap.size:=by
 obtain⟨ents,clock,h1,_⟩:=h
 exact (Array.getElem?_eq_some_iff.1 h1).1
theorem eU.not_cells{S:au}{β:List bn}{W:World}{b:Nat}{es:List AV}(h:eU S β W b es):∃ o,W.heap[b]? = some o∧o.isCells=false:=by
 obtain⟨ents,clock,h1,_⟩:=h
 exact⟨_,h1,rfl⟩
theorem eU.put{S:au}{β:List bn}{W:World}{b:Nat}{es es':List AV}{t kt et:Nat}{k v:AV}{vk vv:Value}(h:eU S β W b es)(hmt:fP T t=some (kt,et))(hck:vV T 20 kt k=true)(hp:ou T kt es k v=some es')(hk:VR S β k vk)(hv:VR S β v vv):
  ∃ o,(Instr.mapUpdate t (.map (some b)) vk vv).run Tryz.prog W= .ok () (bZ W b o)∧o.isCells=false∧eU S β (bZ W b o) b es':=by
 obtain⟨ents,clock,h1,h2,h3⟩:=h
 obtain⟨ents',clock',k1,k2,k3,_⟩:=E8 (P:=Tryz.prog) (w:=W) tok hmt hck hp hk hv h2 h3 h1
 exact⟨.map ents' clock',k1,rfl,ents',clock',gb _ (Array.getElem?_eq_some_iff.1 h1).1,k2,k3⟩
theorem eU.look{S:au}{β:List bn}{W:World}{b:Nat}{es:List AV}{t:Nat}{ok:Bool}{k r:AV}{vk:Value}(h:eU S β W b es)(hl:jo T t es k ok=some r)(hk:VR S β k vk):pT Tryz.prog W S β (Instr.lookup t (.map (some b)) vk ok) r:=by
 obtain⟨ents,clock,h1,h2,h3⟩:=h
 exact look_ok tok hl hk h2 (.inr ⟨b,clock,rfl,h1⟩)
theorem mX{F:Fence}{n:Nat}{P:Program}{fn:Func}{tmps:Array Value}{R:Ending→World→Prop}(n₀:Nat)(I:World→Prop) (hI:∀ W D,n₀≤D→I W→W.heap[D]? = some (.deferred (some []))→I (W.putObj D (.deferred none)))
  (hend:∀ W,I W→LeavesInM F n P fn tmps R [] .returning W):∀(Ds:List Nat)(W:World),Ds.Nodup→(∀ D∈Ds,n₀≤D∧W.heap[D]? = some (.deferred (some [])))→I W→
  LeavesInM F n P fn tmps R (Ds.map fun D=>{ target:=.collected D,args:=#[] }) .returning W
 | [],W,_,_,hW=>hend W hW
 | D:: Ds,W,hn,hD,hW=>by
  have hn':=List.nodup_cons.1 hn
  have hk:=(hD D (by simp)).2
  refine⟨by simp,.inl ⟨D,_,rfl,run_takeDeferred hk,?_⟩⟩
  refine mX n₀ I hI hend Ds _ hn'.2 (fun E hE=>⟨(hD E (by simp[hE])).1,?_⟩) (hI W D (hD D (by simp)).1 hW hk)
  rw[World.putObj_heap_other (fun e=>hn'.1 (by rw[← e];exact hE))]
  exact (hD E (by simp[hE])).2
theorem Ey{V:Type}{l:List (aW×List (aW×V))}{k:Nat}{m:aW×List (aW×V)}(h:l[k]? = some m)(seen:List aW)(out:List (aD×V)):
  jc (l.drop k) seen out=(if m.1∈seen then jc (l.drop (k + 1)) seen out else jc (l.drop (k + 1)) (seen++[m.1]) (ma m.1 m.2 out)):=by
 obtain⟨hlt,rfl⟩:=List.getElem?_eq_some_iff.1 h
 rw[List.drop_eq_getElem_cons hlt]
 rfl
abbrev PF(S:au)(β:List bn):={ p:(Nat×F12)×(aW×AV) // FY S β p.2 p.1.2 }
def mh{S:au}{β:List bn}(mn:aW)(pre:List (PF S β))(out:List (aD×AV)):List (aD×AV):=pre.foldl (fun o x=>gB o (mn,x.1.2.1) x.1.2.2) out
theorem K0{S:au}{β:List bn}{l:List (aW×AV)}{zs:List F12}(h:iR S β l zs):∃ yl:List (PF S β),yl.length=zs.length∧(∀ k (hk:k < yl.length),(yl[k]).1.1=(zs.length - 1 - k,zs[zs.length - 1 - k]?.getD default))∧∀ mn out,mh mn yl out=ma mn l out:=by
 have hl:=h.length
 have hget:∀ j,j < l.length→FY S β (l[l.length - 1 - j]?.getD default) (zs[l.length - 1 - j]?.getD default):=fun j hj=>by
  obtain⟨y,h1,h2⟩:=h.get (i:=l.length - 1 - j) (by omega)
  rw[h1];exact h2
 let yl:List (PF S β):=(List.range l.length).pmap (fun j hj=>⟨((l.length - 1 - j,zs[l.length - 1 - j]?.getD default),l[l.length - 1 - j]?.getD default),hget j hj⟩) (fun j hj=>by simpa using hj)
 have hyl:yl.length=l.length:=by simp[yl]
 have hk:∀ k (hk:k < yl.length),(yl[k]).1=((l.length - 1 - k,zs[l.length - 1 - k]?.getD default),l[l.length - 1 - k]?.getD default):=fun k hk=>by simp[yl]
 refine⟨yl,by rw[hyl,hl],fun k h=>by rw[hk k h,hl],fun mn out=>?_⟩
 have hrev:yl.map (fun x=>x.1.2)=l.reverse:=by
  apply List.ext_getElem
  ·simp[hyl]
  ·intro i h1 h2
   have hi:i < l.length:=by simpa using h2
   rw[List.getElem_map,hk i (by rw[hyl];exact hi),List.getElem_reverse]
   simp[List.getElem?_eq_getElem (show l.length - 1 - i < l.length by omega)]
 unfold mh ma
 rw[← List.foldl_reverse,← hrev,List.foldl_map]
structure IdxI (S:au) (β:List bn) (w:World) (l:List (aW×List (aW×AV))) (B3 bs bo k:Nat) (Ds:List Nat) (W:World):Prop where
 below:Below w.heap.size w W
 b3:W.heap[B3]? = some (.cells #[.map (some bo)] 160 (0,0))
 maps:∃ seen out,eU S β W bs (seen.map pp)∧eU S β W bo (out.map (bV id))∧jc (l.drop k) seen out=jc l [] []
 marks:Ds.Nodup∧∀ D∈Ds,w.heap.size≤D∧W.heap[D]? = some (.deferred (some []))
set_option maxHeartbeats 8000000 in
theorem Ku(F:Fence)(n:Nat)(f1:F.fn 88)(f2:F.fn 187)(f3:F.fn 262)(hro:F.round=none)(hn:5≤n)(S:au)(β:List bn)(a:Option Addr)(len cap:Nat)(zs:List M9)(l:List (aW×List (aW×AV)))(w:World)(hR:jg S β w l zs)(hlen:len=zs.length) (hmax:l.length≤1000000∧∀ m∈l,m.2.length≤1000000)
  (hcells:zs=[]∨∃ b off,a=some ⟨b,off,none⟩∧b < w.heap.size∧pQ w b off zs):
  CallsIn F n Tryz.prog 88 #[.slice a len cap] w fun e W'=>∃ bo,e= .returned (.map (some bo))∧w.heap.size≤bo∧eU S β W' bo ((jc l [] []).map (bV id))∧Below w.heap.size w W':=by
 have h1:1≤n:=by omega
 have hll:=hR.length
 obtain rfl:len=l.length:=by omega
 clear hlen
 have hmk:∀ t W,(Instr.makeMap t none).run Tryz.prog W= .ok (.map (some W.heap.size)) (W.alloc (.map #[] 0)):=fun t W=>by simp[Instr.makeMap]
 refine callsIn_of_wp_marks Tryz.func88 rfl f1 ?_ hro
 simp only[Tryz.ntmps88,List.size_toArray,List.length_cons,List.length_nil,Nat.reduceAdd,Nat.reduceSub,Array.replicate_succ,Array.replicate_zero,List.push_toArray,List.append_toArray,List.nil_append,List.cons_append]
 gi_wp2
 have e3:=World.alloc_heap_new (w.alloc (.map #[] 0)) (.cells #[.map (some w.heap.size)] 160)
 have e4:=World.alloc_heap_new ((w.alloc (.map #[] 0)).alloc (.cells #[.map (some w.heap.size)] 160)) (.map #[] 0)
 have e2:=World.alloc_heap_new w (.map #[] 0)
 simp only[World.size_alloc] at e3 e4
 have hB0:Below w.heap.size w (((w.alloc (.map #[] 0)).alloc (.cells #[.map (some w.heap.size)] 160)).alloc (.map #[] 0)):=
  (((Below.refl _ w).alloc (Nat.le_refl _) _).alloc (by simp) _).alloc (by simp;omega) _
 have hb3:(((w.alloc (.map #[] 0)).alloc (.cells #[.map (some w.heap.size)] 160)).alloc (.map #[] 0)).heap[w.heap.size + 1]? = some (.cells #[.map (some w.heap.size)] 160 (0,0)):=(alloc_old _ _ (by simp)).trans e3
 have hm2:eU S β (((w.alloc (.map #[] 0)).alloc (.cells #[.map (some w.heap.size)] 160)).alloc (.map #[] 0)) w.heap.size []:=
  ⟨#[],0,(alloc_old _ _ (by simp;omega)).trans ((alloc_old _ _ (by simp)).trans e2),⟨rfl,fun i e x he=>by simp at he⟩,fun x hx=>by simp at hx,by simp⟩
 have hm4:eU S β (((w.alloc (.map #[] 0)).alloc (.cells #[.map (some w.heap.size)] 160)).alloc (.map #[] 0)) (w.heap.size + 1 + 1) []:=
  ⟨#[],0,e4,⟨rfl,fun i e x he=>by simp at he⟩,fun x hx=>by simp at hx,by simp⟩
 generalize (((w.alloc (.map #[] 0)).alloc (.cells #[.map (some w.heap.size)] 160)).alloc (.map #[] 0))=W0 at hB0 hb3 hm2 hm4 ⊢
 clear e2 e3 e4
 refine wpIn_loop (fun a' W=>∃(k:Nat)(Ds:List Nat)(j1 j5 j6 j7 j8 j14 j15 j16 j17 j18 j19 j20 j21 j22 j23 j24 j25 j26 j27 j28 j29 j30 j31 j32 j33 j34 j35 j36 j37:Value),IdxI S β w l (w.heap.size + 1) (w.heap.size + 1 + 1) w.heap.size k Ds W∧k≤l.length∧a'= { tmps:=#[.slice a l.length cap,j1,.map none,.pointer (some ⟨w.heap.size + 1,0,none⟩),.map (some (w.heap.size + 1 + 1)),j5,j6,j7,j8,.map (some w.heap.size),.map (some (w.heap.size + 1 + 1)),.slice a l.length cap,.int .i64 (l.length:Int),.int .i64 (k:Int),j14,j15,j16,j17,j18,j19,j20,j21,j22,j23,j24,j25,j26,j27,j28,j29,j30,j31,j32,j33,j34,j35,j36,j37],defers:=Ds.map fun D=>{ target:=.collected D,args:=#[] } })
  (fun a' _=>((l.length:Int) - intOf (a'.tmps.getD 13 undef)).toNat) ⟨0,[],undef,undef,undef,undef,undef,undef,undef,undef,undef,undef,undef,undef,undef,undef,undef,undef,undef,undef,undef,undef,undef,undef,undef,undef,undef,undef,undef,undef,undef,⟨hB0,hb3,⟨[],[],hm4,hm2,by simp⟩,by simp,by simp⟩,Nat.zero_le _,rfl⟩ ?_
 rintro a1 W ⟨k,Ds,j1,j5,j6,j7,j8,j14,j15,j16,j17,j18,j19,j20,j21,j22,j23,j24,j25,j26,j27,j28,j29,j30,j31,j32,j33,j34,j35,j36,j37,hI,hk,rfl⟩
 by_cases hlt:k < l.length
 ·obtain⟨m,hm,hMn,fz,hfz,hfuns,hsl,hs1',hs2',hs3',hs5',hs6',hs7',hs8'⟩:=hR.get hlt
  have hkz:k < zs.length:=by omega
  obtain⟨b,off,rfl,hb,hcs⟩:=hcells.resolve_left (by rintro rfl;simp at hkz)
  have hkl:k < l.length:=by omega
  obtain⟨seen,out,hs,ho,hidx⟩:=hI.maps
  rw[Ey hm] at hidx
  have hK0:dZ w.heap.size w.heap.size w W:=dZ.of_below hI.below
  obtain⟨c0,c1,c2,c3,c4,c5,c6,c7,c8⟩:=(hcs.keep hK0 hb (by omega)) k hkz
  generalize hz:zs[k]?.getD default=z at hMn hfuns hsl hs1' hs2' hs3' hs5' hs6' hs7' hs8' c0 c1 c2 c3 c4 c5 c6 c7 c8
  obtain⟨z0,z1,z2,z3,z4,z5,z6,z7,z8⟩:=z
  simp only at hMn hfuns hsl hs1' hs2' hs3' hs5' hs6' hs7' hs8' c0 c1 c2 c3 c4 c5 c6 c7 c8
  obtain⟨sp,sl,sc,rfl⟩:=hsl
  obtain⟨p1,l1,q1,rfl⟩:=hs1'
  obtain⟨p2,l2,q2,rfl⟩:=hs2'
  obtain⟨p3,l3,q3,rfl⟩:=hs3'
  obtain⟨p5,rfl⟩:=hs5'
  obtain⟨p6,l6,q6,rfl⟩:=hs6'
  obtain⟨p7,l7,q7,rfl⟩:=hs7'
  obtain⟨p8,l8,q8,rfl⟩:=hs8'
  have hn1:W.heap.size < (W.alloc (.cells #[.string z0,.slice p1 l1 q1,.slice p2 l2 q2,.slice p3 l3 q3,.slice sp sl sc,.bool p5,.slice p6 l6 q6,.slice p7 l7 q7,.slice p8 l8 q8] 29)).heap.size:=by simp
  have hB1:Below w.heap.size w (W.alloc (.cells #[.string z0,.slice p1 l1 q1,.slice p2 l2 q2,.slice p3 l3 q3,.slice sp sl sc,.bool p5,.slice p6 l6 q6,.slice p7 l7 q7,.slice p8 l8 q8] 29)):=hI.below.alloc hI.below.size _
  have hr1:(W.alloc (.cells #[.string z0,.slice p1 l1 q1,.slice p2 l2 q2,.slice p3 l3 q3,.slice sp sl sc,.bool p5,.slice p6 l6 q6,.slice p7 l7 q7,.slice p8 l8 q8] 29)).heap[W.heap.size]? = some (.cells #[.string z0,.slice p1 l1 q1,.slice p2 l2 q2,.slice p3 l3 q3,.slice sp sl sc,.bool p5,.slice p6 l6 q6,.slice p7 l7 q7,.slice p8 l8 q8] 29 (0,0)):=World.alloc_heap_new W _
  have hb31:(W.alloc (.cells #[.string z0,.slice p1 l1 q1,.slice p2 l2 q2,.slice p3 l3 q3,.slice sp sl sc,.bool p5,.slice p6 l6 q6,.slice p7 l7 q7,.slice p8 l8 q8] 29)).heap[w.heap.size + 1]? = some (.cells #[.map (some w.heap.size)] 160 (0,0)):=(alloc_old W _ (Array.getElem?_eq_some_iff.1 hI.b3).1).trans hI.b3
  have hs1:=hs.kept (alloc_old W (.cells #[.string z0,.slice p1 l1 q1,.slice p2 l2 q2,.slice p3 l3 q3,.slice sp sl sc,.bool p5,.slice p6 l6 q6,.slice p7 l7 q7,.slice p8 l8 q8] 29) hs.lt)
  have ho1:=ho.kept (alloc_old W (.cells #[.string z0,.slice p1 l1 q1,.slice p2 l2 q2,.slice p3 l3 q3,.slice sp sl sc,.bool p5,.slice p6 l6 q6,.slice p7 l7 q7,.slice p8 l8 q8] 29) ho.lt)
  have hk1:∀ D∈Ds,w.heap.size≤D∧(W.alloc (.cells #[.string z0,.slice p1 l1 q1,.slice p2 l2 q2,.slice p3 l3 q3,.slice sp sl sc,.bool p5,.slice p6 l6 q6,.slice p7 l7 q7,.slice p8 l8 q8] 29)).heap[D]? = some (.deferred (some [])):=fun D hD=>⟨(hI.marks.2 D hD).1,(alloc_old W _ (Array.getElem?_eq_some_iff.1 (hI.marks.2 D hD).2).1).trans (hI.marks.2 D hD).2⟩
  have hname:VR S β (.str m.1) (.string z0):=by simp only[VR];exact⟨z0,rfl,hMn⟩
  obtain⟨v,hlook,hvr⟩:=hs1.look (t:=125) (Cc seen m.1) hname
  simp only[VR] at hvr
  subst hvr
  by_cases hse:m.1∈seen
  ·rw[if_pos hse] at hidx
   simp only[hse,decide_true] at hlook
   gi_wp2_with (first
    | (gi_at_lookup;refine gQ rfl _ _ 125 false rfl hlook ?_)
    | gi_in)
   refine⟨⟨k + 1,Ds,_,_,_,_,_,_,_,_,_,_,_,_,_,_,_,_,_,_,_,_,_,_,_,_,_,_,_,_,_,⟨hB1,hb31,⟨seen,out,hs1,ho1,hidx⟩,hI.marks.1,hk1⟩,by omega,rfl⟩,?_⟩
   simp[intOf]
   omega
  ·rw[if_neg hse] at hidx
   simp only[hse,decide_false] at hlook
   obtain⟨os,hupd,hos,hs2⟩:=hs1.put (t:=125) Nj rfl (Fa seen m.1 hse) hname (vv:=.bool true) (by simp only[VR])
   have hx1:W.heap.size≠w.heap.size + 1 + 1:=fun e=>by have:=hs.lt;omega
   obtain⟨W2,hW2⟩:∃ W2,bZ (W.alloc (.cells #[.string z0,.slice p1 l1 q1,.slice p2 l2 q2,.slice p3 l3 q3,.slice sp sl sc,.bool p5,.slice p6 l6 q6,.slice p7 l7 q7,.slice p8 l8 q8] 29)) (w.heap.size + 1 + 1) os=W2:=⟨_,rfl⟩
   have hr2:W2.heap[W.heap.size]? = some (.cells #[.string z0,.slice p1 l1 q1,.slice p2 l2 q2,.slice p3 l3 q3,.slice sp sl sc,.bool p5,.slice p6 l6 q6,.slice p7 l7 q7,.slice p8 l8 q8] 29 (0,0)):=by rw[← hW2,bE _ _ _ hx1];exact hr1
   have hb32:W2.heap[w.heap.size + 1]? = some (.cells #[.map (some w.heap.size)] 160 (0,0)):=by rw[← hW2,bE _ _ _ (by omega)];exact hb31
   have ho2:eU S β W2 w.heap.size (out.map (bV id)):=ho1.kept (by rw[← hW2,bE _ _ _ (by omega)])
   have hB2:Below w.heap.size w W2:=by rw[← hW2];exact hB1.grown (gV _ _ _) hB1.size (fun j e=>by cases e;omega)
   have hk2:∀ D∈Ds,w.heap.size≤D∧W2.heap[D]? = some (.deferred (some [])):=fun D hD=>⟨(hk1 D hD).1,by
    rw[← hW2,bE _ _ _ (fun e=>by obtain⟨en,cl,k1,_⟩:=hs1;rw[← e,(hk1 D hD).2] at k1;cases k1)];exact (hk1 D hD).2⟩
   rw[hW2] at hupd hs2
   have hsz2:W2.heap.size=W.heap.size + 1:=by rw[← hW2];simp[bZ]
   clear hW2
   have hcm0:W2.cell? ⟨W.heap.size,0,none⟩=some (.string z0):=by simp[World.cell?,hr2]
   have hcm4:W2.cell? ⟨W.heap.size,4,none⟩=some (.slice sp sl sc):=by simp[World.cell?,hr2]
   gi_wp2_with (first
    | (gi_at_lookup;refine gQ rfl _ _ 125 false rfl hlook ?_)
    | (gi_at_mapUpdate;refine gR rfl _ _ _ 125 rfl hupd ?_)
    | (gi_at_call 187;refine (Gb F (n - 1) f2 hro _ _ _ _).mono ?_;rintro e w' ⟨rfl,rfl⟩)
    | gi_in)
   obtain⟨yl,hyl,hye,hyo⟩:=K0 hfz
   have hD:∀ D∈Ds,D < W.heap.size:=fun D hD=>(Array.getElem?_eq_some_iff.1 (hI.marks.2 D hD).2).1
   have hs3:=hs2.kept (alloc_old W2 (.cells #[.slice sp sl sc] 25) hs2.lt)
   have ho3:=ho2.kept (alloc_old W2 (.cells #[.slice sp sl sc] 25) ho2.lt)
   have hB3:Below w.heap.size w (W2.alloc (.cells #[.slice sp sl sc] 25)):=hB2.alloc hB2.size _
   have hr3:(W2.alloc (.cells #[.slice sp sl sc] 25)).heap[W.heap.size]? = some (.cells #[.string z0,.slice p1 l1 q1,.slice p2 l2 q2,.slice p3 l3 q3,.slice sp sl sc,.bool p5,.slice p6 l6 q6,.slice p7 l7 q7,.slice p8 l8 q8] 29 (0,0)):=(alloc_old W2 _ (by omega)).trans hr2
   have hb33:(W2.alloc (.cells #[.slice sp sl sc] 25)).heap[w.heap.size + 1]? = some (.cells #[.map (some w.heap.size)] 160 (0,0)):=(alloc_old W2 _ (Array.getElem?_eq_some_iff.1 hb32).1).trans hb32
   have hbx3:(W2.alloc (.cells #[.slice sp sl sc] 25)).cell? ⟨W.heap.size + 1,0,none⟩=some (.slice sp sl sc):=by
    have:=World.alloc_heap_new W2 (.cells #[.slice sp sl sc] 25)
    rw[hsz2] at this
    simp[World.cell?,this]
   have hk3:∀ D∈Ds,w.heap.size≤D∧(W2.alloc (.cells #[.slice sp sl sc] 25)).heap[D]? = some (.deferred (some [])):=fun D hd=>⟨(hk2 D hd).1,(alloc_old W2 _ (by have:=hD D hd;omega)).trans (hk2 D hd).2⟩
   have hsz3:(W2.alloc (.cells #[.slice sp sl sc] 25)).heap.size=W.heap.size + 2:=by simp[hsz2]
   have hwW:=hI.below.size
   have hbsW:=hs.lt
   generalize (W2.alloc (.cells #[.slice sp sl sc] 25))=W3 at hs3 ho3 hB3 hr3 hb33 hbx3 hk3 hsz3 ⊢
   clear hs2 ho2 hB2 hr2 hb32 hk2 hsz2 hupd hcm0 hcm4 hlook hs1 ho1 hB1 hr1 hb31 hk1 hn1 W2
   have hfl:=hfz.length
   have hfm:=hmax.2 m (List.mem_of_getElem? hm)
   have hF3:i9 W3.heap.size w.heap.size W3 (.slice sp sl sc) fz:=(hfuns.keep (dZ.of_below hB3)).mono (by omega)
   have keepO:∀(j:Nat)(X Y:World)(row:Option Nat)(o:Obj),X.heap[j]? = some o→j < W3.heap.size→X.grownBy Y row→(∀ r,row=some r→W3.heap.size≤r∧∃ o:Obj,X.heap[r]? = some o∧o.isCells=false)→Y.heap[j]? = X.heap[j]?:=fun j X Y row o hj hlt hg hr=>
    hg.block j (Array.getElem?_eq_some_iff.1 hj).1 (fun e=>by have:=(hr j e.symm).1;omega)
   refine wpIn_rangeFunc_ownH hro h1 (gf:=262) (lb:=#[.pointer (some ⟨W.heap.size + 1,0,none⟩)]) rfl f3 (enters_of Tryz.func262 (by kernel_rfl) rfl)
    (yx F (n - 1) f3 hro (by omega) (W.heap.size + 1) w.heap.size (.slice sp sl sc) fz (by omega) (fun x:PF S β=>#[Value.int .i64 (x.1.1.1:Int),x.1.1.2.v]) yl hyl (fun k hk=>by rw[hye k hk]) W3 (by omega) (by omega) hbx3 hF3)
    GT (GR (Nat.le_refl _)) (Below.refl _ _) (fun _=>rfl)
    (fun pre W'=>W3.heap.size≤W'.heap.size∧Below w.heap.size w W'∧W'.heap[w.heap.size + 1]? = some (.cells #[.map (some w.heap.size)] 160 (0,0))∧W'.heap[W.heap.size]? = some (.cells #[.string z0,.slice p1 l1 q1,.slice p2 l2 q2,.slice p3 l3 q3,.slice sp sl sc,.bool p5,.slice p6 l6 q6,.slice p7 l7 q7,.slice p8 l8 q8] 29 (0,0))∧
     eU S β W' (w.heap.size + 1 + 1) ((seen++[m.1]).map pp)∧eU S β W' w.heap.size ((mh m.1 pre out).map (bV id))∧∀ D∈Ds,w.heap.size≤D∧W'.heap[D]? = some (.deferred (some [])))
    (fun _ _ _=>False) ?hI (fun c s A B row h=>h.elim) ⟨Nat.le_refl _,hB3,hb33,hr3,hs3,ho3,hk3⟩
    (fun y a' W'=>∃ Bx,W.heap.size + 2≤Bx∧W'.heap[Bx]? = some (.cells y.1.1.2.arr 76 (0,0))∧a'= { tmps:=#[.slice (some ⟨b,off,none⟩) l.length cap,j1,.map none,.pointer (some ⟨w.heap.size + 1,0,none⟩),.map (some (w.heap.size + 1 + 1)),j5,.pointer (some ⟨W.heap.size,0,none⟩),j7,.pointer (some ⟨Bx,0,none⟩),.map (some w.heap.size),.map (some (w.heap.size + 1 + 1)),.slice (some ⟨b,off,none⟩) l.length cap,.int .i64 (l.length:Int),.int .i64 (k:Int),.bool true,.pointer (some ⟨b,off + k * 9,none⟩),.agg #[.string z0,.slice p1 l1 q1,.slice p2 l2 q2,.slice p3 l3 q3,.slice sp sl sc,.bool p5,.slice p6 l6 q6,.slice p7 l7 q7,.slice p8 l8 q8],.map (some (w.heap.size + 1 + 1)),.pointer (some ⟨W.heap.size,0,none⟩),.string z0,.bool false,.map (some (w.heap.size + 1 + 1)),.pointer (some ⟨W.heap.size,0,none⟩),.string z0,.pointer (some ⟨W.heap.size,4,none⟩),.slice sp sl sc,.func (.func 262) #[] #[.pointer (some ⟨W.heap.size + 1,0,none⟩)],.int .i64 (y.1.1.1:Int),y.1.1.2.v,j29,j30,j31,j32,j33,j34,j35,j36,j37],defers:=[] })
    ?hAx ?assign ?body ?done ?stop
   case hI=>
    rintro s X Y row ⟨i0,i1,i2,i3,i4,i5,i6⟩ hg hr
    refine⟨Nat.le_trans i0 hg.size,i1.grown hg i1.size (fun k e=>by have:=(hr k e).1;omega),(keepO _ X Y row _ i2 (by omega) hg hr).trans i2,(keepO _ X Y row _ i3 (by omega) hg hr).trans i3,?_,?_,fun D hd=>⟨(i6 D hd).1,(keepO _ X Y row _ (i6 D hd).2 (by have:=hD D hd;omega) hg hr).trans (i6 D hd).2⟩⟩
    ·obtain⟨o,ho,_⟩:=i4.not_cells
     exact i4.kept (keepO _ X Y row _ ho (by omega) hg hr)
    ·obtain⟨o,ho,_⟩:=i5.not_cells
     exact i5.kept (keepO _ X Y row _ ho (by omega) hg hr)
   case hAx=>
    rintro y a' _ X Y row ⟨Bx,x1,x2,x3⟩ hg hr
    exact⟨Bx,x1,(hg.block Bx (Array.getElem?_eq_some_iff.1 x2).1 (fun e=>by obtain⟨_,o,ho,hc⟩:=hr Bx e.symm;rw[x2] at ho;cases ho;cases hc)).trans x2,x3⟩
   case assign=>
    rintro lo pre y W' K ⟨i0,i1,i2,i3,i4,i5,i6⟩ hK
    obtain⟨⟨⟨yi,⟨y0,y1,y2,y3,y4,y5,y6,y7,y8,y9,y10,y11⟩⟩,yn,ya⟩,hy1,hy2,g1,g2,g3,g4,g5,g6,g7,g8,g9,g10,g11⟩:=y
    simp only at hy1 hy2 g1 g2 g3 g4 g5 g6 g7 g8 g9 g10 g11
    obtain⟨yv1,rfl⟩:=g1
    obtain⟨yp2,yl2,yc2,rfl⟩:=g2
    obtain⟨yv3,rfl⟩:=g3
    obtain⟨yp4,yl4,yc4,rfl⟩:=g4
    obtain⟨yv5,rfl⟩:=g5
    obtain⟨yv6,rfl⟩:=g6
    obtain⟨yv7,rfl⟩:=g7
    obtain⟨yv8,rfl⟩:=g8
    obtain⟨yv9,rfl⟩:=g9
    obtain⟨yp10,yl10,yc10,rfl⟩:=g10
    obtain⟨yp11,yl11,yc11,rfl⟩:=g11
    simp only[F12.v,F12.arr] at hK ⊢
    gi_wp2
    exact hK _ _ ((KeepsOthers.alloc _ _).from _) (fun k hk _=>alloc_old W' _ (by omega)) ⟨by simp;omega,i1.alloc i1.size _,(alloc_old W' _ (Array.getElem?_eq_some_iff.1 i2).1).trans i2,(alloc_old W' _ (Array.getElem?_eq_some_iff.1 i3).1).trans i3,i4.kept (alloc_old W' _ i4.lt),i5.kept (alloc_old W' _ i5.lt),fun D hd=>⟨(i6 D hd).1,(alloc_old W' _ (Array.getElem?_eq_some_iff.1 (i6 D hd).2).1).trans (i6 D hd).2⟩⟩ ⟨W'.heap.size,by omega,World.alloc_heap_new W' _,rfl⟩
   case body=>
    rintro lo pre y a' W' hl ⟨r,hr⟩ ⟨i0,i1,i2,i3,i4,i5,i6⟩ ⟨Bx,hbx,rx,rfl⟩ hlen
    obtain⟨⟨⟨yi,⟨y0,y1,y2,y3,y4,y5,y6,y7,y8,y9,y10,y11⟩⟩,yn,ya⟩,hy1,hy2,g1,g2,g3,g4,g5,g6,g7,g8,g9,g10,g11⟩:=y
    simp only at hy1 hy2 g1 g2 g3 g4 g5 g6 g7 g8 g9 g10 g11 rx
    obtain⟨yv1,rfl⟩:=g1
    obtain⟨yp2,yl2,yc2,rfl⟩:=g2
    obtain⟨yv3,rfl⟩:=g3
    obtain⟨yp4,yl4,yc4,rfl⟩:=g4
    obtain⟨yv5,rfl⟩:=g5
    obtain⟨yv6,rfl⟩:=g6
    obtain⟨yv7,rfl⟩:=g7
    obtain⟨yv8,rfl⟩:=g8
    obtain⟨yv9,rfl⟩:=g9
    obtain⟨yp10,yl10,yc10,rfl⟩:=g10
    obtain⟨yp11,yl11,yc11,rfl⟩:=g11
    simp only[F12.arr] at rx
    simp only[F12.v] at hy2 ⊢
    have hc3:W'.cell? ⟨w.heap.size + 1,0,none⟩=some (.map (some w.heap.size)):=by simp[World.cell?,i2]
    have hcm0:W'.cell? ⟨W.heap.size,0,none⟩=some (.string z0):=by simp[World.cell?,i3]
    have hcy0:W'.cell? ⟨Bx,0,none⟩=some (.string y0):=by simp[World.cell?,rx]
    have hcy1:W'.cell? ⟨Bx,1,none⟩=some (.bool yv1):=by simp[World.cell?,rx]
    have hcy2:W'.cell? ⟨Bx,2,none⟩=some (.slice yp2 yl2 yc2):=by simp[World.cell?,rx]
    have hcy3:W'.cell? ⟨Bx,3,none⟩=some (.int .i64 yv3):=by simp[World.cell?,rx]
    have hcy4:W'.cell? ⟨Bx,4,none⟩=some (.slice yp4 yl4 yc4):=by simp[World.cell?,rx]
    have hcy5:W'.cell? ⟨Bx,5,none⟩=some (.int .i64 yv5):=by simp[World.cell?,rx]
    have hcy6:W'.cell? ⟨Bx,6,none⟩=some (.int .i64 yv6):=by simp[World.cell?,rx]
    have hcy7:W'.cell? ⟨Bx,7,none⟩=some (.int .i64 yv7):=by simp[World.cell?,rx]
    have hcy8:W'.cell? ⟨Bx,8,none⟩=some (.string yv8):=by simp[World.cell?,rx]
    have hcy9:W'.cell? ⟨Bx,9,none⟩=some (.string yv9):=by simp[World.cell?,rx]
    have hcy10:W'.cell? ⟨Bx,10,none⟩=some (.slice yp10 yl10 yc10):=by simp[World.cell?,rx]
    have hcy11:W'.cell? ⟨Bx,11,none⟩=some (.slice yp11 yl11 yc11):=by simp[World.cell?,rx]
    have hkr:VR S β (aP (m.1,yn)) (.agg #[.string z0,.string y0]):=by
     simp only[aP,VR,aM]
     exact⟨_,rfl,_,_,rfl,⟨z0,rfl,hMn⟩,_,_,rfl,⟨y0,rfl,hy1⟩,rfl⟩
    obtain⟨om,hupd,hom,ho'⟩:=i5.put (t:=160) EU rfl (AO id (mh m.1 pre out) (m.1,yn) ya) hkr hy2
    gi_wp2_with (first
     | (gi_at_mapUpdate;refine gR rfl _ _ _ 160 rfl hupd ?_)
     | gi_in)
    refine⟨⟨by simp[bZ],fun k o hk hko _=>(bE _ _ _ (by omega)).trans hko⟩,fun k hk hn=>bE _ _ _ hn,by simp[bZ];omega,i1.grown (gV _ _ _) i1.size (fun j e=>by cases e;omega),(bE _ _ _ (by omega)).trans i2,(bE _ _ _ (by omega)).trans i3,i4.kept (bE _ _ _ (by omega)),?_,fun D hd=>⟨(i6 D hd).1,(bE _ _ _ (fun e=>?_)).trans (i6 D hd).2⟩⟩
    ·have hout:∀(x:PF S β),mh m.1 (pre++[x]) out=gB (mh m.1 pre out) (m.1,x.1.2.1) x.1.2.2:=fun x=>by simp[mh]
     rw[hout]
     exact ho'
    ·obtain⟨o,hoo,_⟩:=i5.not_cells
     obtain⟨en,cl,k1,_⟩:=i5
     rw[← e,(i6 D hd).2] at k1
     cases k1
   case done=>
    rintro D ys W' hDl rfl ⟨i0,i1,i2,i3,i4,i5,i6⟩ hK
    gi_wp2
    rw[hyo] at i5
    refine⟨⟨k + 1,D:: Ds,_,_,_,_,_,_,_,_,_,_,_,_,_,_,_,_,_,_,_,_,_,_,_,_,_,_,_,_,_,⟨i1,i2,⟨seen++[m.1],_,i4,i5,hidx⟩,List.nodup_cons.2 ⟨fun hd=>by have:=hD D hd;omega,hI.marks.1⟩,fun E hE=>?_⟩,by omega,rfl⟩,?_⟩
    ·rcases List.mem_cons.1 hE with rfl | hE
     ·exact⟨by omega,hK⟩
     ·exact i6 E hE
    ·simp[intOf]
     omega
   case stop=>
    rintro D c pre W' hD _ h hK
    exact h.elim
 ·obtain rfl:k=l.length:=by omega
  have hc3:W.cell? ⟨w.heap.size + 1,0,none⟩=some (.map (some w.heap.size)):=by simp[World.cell?,hI.b3]
  gi_wp2
  obtain⟨seen,out,hs,ho,hidx⟩:=hI.maps
  have hout:out=jc l [] []:=by simpa [jc] using hidx
  subst hout
  refine mX w.heap.size (fun W'=>Below w.heap.size w W'∧eU S β W' w.heap.size ((jc l [] []).map (bV id))) (fun W' D hD ⟨i1,i2⟩ hk=>⟨i1.trans (belowK_b (w:=w) (Nat.le_refl _) W' D _ _ hD hk rfl rfl),i2.kept ?_⟩) (fun W' ⟨i1,i2⟩=>?_) Ds W hI.marks.1 hI.marks.2 ⟨hI.below,ho⟩
  ·refine World.putObj_heap_other (fun e=>?_)
   obtain⟨ents,clock,k1,_⟩:=i2
   have:W'.heap[D]? = some (.map ents clock):=by first | (rw[e];exact k1) | (rw[← e];exact k1)
   rw[this] at hk
   cases hk
  ·exact⟨_,results_tmp rfl _ _ _,w.heap.size,rfl,Nat.le_refl _,i2,i1⟩
end Go.Proofs.YtkkabinknmldeaaGreat
namespace Go.Proofs.YtkkabinknmldeaaGreat
open Go Go.Av Go.RowKit Go.Shelf
attribute [local go_sem] Oper.semAt_some
abbrev eV:=ByteArray×ByteArray
def iL(x:eV):Value:=.agg #[.string x.1,.string x.2]
set_option maxRecDepth 100000 in
set_option maxHeartbeats 2000000 in
theorem zi(F:Fence)(n:Nat)(h10:F.fn 186)(hro:F.round=none)(hn:1≤n)(l Bm Bo b:Nat)(es:Array MapEntry)(clock:Nat)(ks:List eV)(hks:es.toList.map (·.key)=ks.map iL)(hst:iw es.toList clock) (J Jx:List eV→World→Prop)
  (hY:∀ pre x W,J pre W→pre.length < ks.length→YieldAt F (n - 1) Tryz.prog l #[iL x] W fun e W'=>
   (e= .returned (.bool true)∧J (pre++[x]) W'∧KeepsWalks W W')∨(e= .returned (.bool false)∧Jx (pre++[x]) W'))
  (W:World) (hJ:AbidesFrom W.heap.size J) (hm:W.cell? ⟨Bm,Bo,none⟩=some (.map (some b))) (hmap:W.heap[b]? = some (.map es clock)) (h0:J [] W):
  CallsIn F n Tryz.prog 186 #[.func (.yield l) #[] #[],.pointer (some ⟨Bm,Bo,none⟩)] W fun e W'=>(∃ v,e= .returned v)∧
   ((∃ ss:List eV,ss.Perm ks∧J ss W')∨(∃ pre:List eV,True∧Jx pre W')):=by
 have hbl:b < W.heap.size:=(Array.getElem?_eq_some_iff.1 hmap).1
 have hlen:es.toList.length=ks.length:=by have:=congrArg List.length hks;simpa using this
 have hrg:(Instr.range 158 (.map (some b))).run Tryz.prog W= .ok (.pointer (some ⟨W.heap.size,0,none⟩)) (W.alloc (.mapIter (some b) clock #[] clock)):=by
  simp[Instr.range,run_underlying Tryz.underlying158,fK hmap (by simp)]
 refine callsIn_of_wp Tryz.func186 rfl h10 ?_ hro
 simp only[Tryz.ntmps186,List.size_toArray,List.length_cons,List.length_nil,Nat.reduceAdd,Nat.reduceSub,Array.replicate_succ,Array.replicate_zero,List.push_toArray,List.append_toArray,List.nil_append,List.cons_append]
 gi_wp2_with (first
  | (gi_at_range;refine dX rfl _ 158 rfl hrg ?_)
  | gi_in)
 have hg0:W.grownBy (W.alloc (.mapIter (some b) clock #[] clock)) none:=World.grownBy_alloc W _ none
 have hit0:(W.alloc (.mapIter (some b) clock #[] clock)).heap[W.heap.size]? = some (.mapIter (some b) clock #[] clock):=World.alloc_heap_new W _
 have hmp0:(W.alloc (.mapIter (some b) clock #[] clock)).heap[b]? = some (.map es clock):=(alloc_old W _ hbl).trans hmap
 have hJ0:=hJ [] W _ none h0 hg0 (fun r e=>by cases e)
 generalize (W.alloc (.mapIter (some b) clock #[] clock))=W0 at hit0 hmp0 hJ0 ⊢
 go_frame
 gi_loopw [3] (fun _ wr=>∃(seen:Array Nat)(last:Nat)(ss:List eV),wr.heap[W.heap.size]? = some (.mapIter (some b) clock seen last)∧clock≤last∧wr.heap[b]? = some (.map es clock)∧(ss++(cp es.toList seen).map (fun i=>ks[i]!)).Perm ks∧J ss wr)
  (fun _ wr=>pK wr W.heap.size b)
 case atStart=>
  refine⟨#[],clock,[],hit0,Nat.le_refl _,hmp0,?_,hJ0⟩
  rw[pb,hlen,List.nil_append]
  have:(List.range ks.length).map (fun i=>ks[i]!)=ks:=by
   apply List.ext_getElem
   ·simp
   ·intro i h1 h2;simp[List.getElem?_eq_getElem h2]
  rw[this]
 case round=>
  obtain⟨seen,last,ss,hit,hcl,hmp,hpm,hJs⟩:=hrel
  have hls:ss.length + (cp es.toList seen).length=ks.length:=by have:=hpm.length_eq;simpa using this
  have hiW:W.heap.size < wr.heap.size:=(Array.getElem?_eq_some_iff.1 hit).1
  gi_wp2_with (first
   | (gi_at_next;refine i8 rfl _ rfl rfl hit hmp hst.1 hcl ?_ ?_)
   | gi_in)
  ·intro i1
   gi_wp2
   go_end0
   rw[i1] at hpm
   exact⟨⟨_,rfl⟩,.inl ⟨ss,by simpa using hpm,hJs⟩⟩
  ·intro i u w1 i1 i2 i3
   have i2:es.toList[i]? = some u:=by simpa using i2
   have hil:i < ks.length:=by rw[← hlen];exact dt i2
   have hue:u.key=iL ks[i]!:=by
    have:(es.toList.map (·.key))[i]? = (ks.map iL)[i]?:=by rw[hks]
    rw[List.getElem?_map,List.getElem?_map,i2,List.getElem?_eq_getElem hil] at this
    simp only[Option.map_some,Option.some.injEq] at this
    rw[this,getElem!_pos ks i hil]
   have hperm:=oW (lE es.toList seen) i1
   have hpush:=jI hst.2 (seen:=seen) i2
   have hg1:wr.grownBy w1 none:=by rcases i3 with rfl | rfl;exact⟨rfl,rfl,rfl,Nat.le_refl _,fun _ _ _=>rfl⟩;exact qN _
   obtain⟨w2,hw2⟩:∃ w2,bZ w1 W.heap.size (.mapIter (some b) clock (seen.push u.born) clock)=w2:=⟨_,rfl⟩
   have hw1:w1.heap=wr.heap:=by rcases i3 with rfl | rfl <;> rfl
   have hit2:w2.heap[W.heap.size]? = some (.mapIter (some b) clock (seen.push u.born) clock):=by rw[← hw2];exact gb _ (by rw[hw1];exact hiW)
   have hmp2:w2.heap[b]? = some (.map es clock):=by rw[← hw2,bE _ _ _ (by omega),hw1];exact hmp
   have hJ1:J ss w1:=hJ ss wr w1 none hJs hg1 (fun r e=>by cases e)
   have hJ2:J ss w2:=by
    rw[← hw2]
    exact hJ ss w1 _ (some W.heap.size) hJ1 (gV w1 _ _) (fun r e=>by cases e;exact⟨Nat.le_refl _,_,by rw[hw1];exact hit,rfl⟩)
   have hen:=rP (P:=Tryz.prog) hit2 hmp2 hst i2
   rw[hue] at hen
   rw[hw2,hue]
   clear hw2
   have hsl:ss.length < ks.length:=by have:=hperm.length_eq;simp at this;omega
   generalize hkx:ks[i]! = kx at hen hue ⊢
   obtain⟨k1,k2⟩:=kx
   have hJ3:J ss (w2.alloc (.cells #[.string k1,.string k2] 65)):=hJ ss w2 _ none hJ2 (World.grownBy_alloc w2 _ none) (fun r e=>by cases e)
   have hit3:(w2.alloc (.cells #[.string k1,.string k2] 65)).heap[W.heap.size]? = some (.mapIter (some b) clock (seen.push u.born) clock):=(alloc_old w2 _ (Array.getElem?_eq_some_iff.1 hit2).1).trans hit2
   have hmp3:(w2.alloc (.cells #[.string k1,.string k2] 65)).heap[b]? = some (.map es clock):=(alloc_old w2 _ (Array.getElem?_eq_some_iff.1 hmp2).1).trans hmp2
   obtain⟨fn,tmps,assign,body,hy,hR⟩:=hY ss (k1,k2) _ hJ3 hsl
   simp only[iL] at hen hy ⊢
   gi_wp2
   refine hR.mono ?_
   rintro e W3 (⟨rfl,hJ3,hk3⟩ | ⟨rfl,hJx3⟩)
   ·gi_wp2
    have hit3:=hk3.same _ _ hit3 rfl
    have hmp3:=hk3.same _ _ hmp3 rfl
    go_roundw
    case rel=>
     refine⟨_,_,ss++[(k1,k2)],hit3,Nat.le_refl _,hmp3,?_,hJ3⟩
     rw[hpush]
     refine List.Perm.trans ?_ hpm
     rw[List.append_assoc]
     refine List.Perm.append_left ss ?_
     exact ((hperm.map fun i=>ks[i]!).trans (by rw[List.map_cons,hkx];rfl)).symm
    case measure=>
     simp only[pK,hit3,hmp3,hit,hmp,hpush]
     have:=hperm.length_eq
     simp at this
     omega
   ·gi_wp2
    refine bodyPost_ret (results_none rfl _ _ _) rfl ?_
    exact⟨⟨_,rfl⟩,.inr ⟨ss++[(k1,k2)],trivial,hJx3⟩⟩
set_option maxRecDepth 100000 in
set_option maxHeartbeats 1000000 in
theorem wR(F:Fence)(n:Nat)(h10:F.fn 186)(hro:F.round=none)(l Bm Bo:Nat)(J:List eV→World→Prop)(W:World)(hJ:AbidesFrom W.heap.size J)(hm:W.cell? ⟨Bm,Bo,none⟩=some (.map none))(h0:J [] W):
  CallsIn F n Tryz.prog 186 #[.func (.yield l) #[] #[],.pointer (some ⟨Bm,Bo,none⟩)] W fun e W'=>(∃ v,e= .returned v)∧J [] W':=by
 have hrg:(Instr.range 158 (.map none)).run Tryz.prog W= .ok (.pointer (some ⟨W.heap.size,0,none⟩)) (W.alloc (.mapIter none 0 #[] 0)):=by
  simp[Instr.range,run_underlying Tryz.underlying158]
 refine callsIn_of_wp Tryz.func186 rfl h10 ?_ hro
 simp only[Tryz.ntmps186,List.size_toArray,List.length_cons,List.length_nil,Nat.reduceAdd,Nat.reduceSub,Array.replicate_succ,Array.replicate_zero,List.push_toArray,List.append_toArray,List.nil_append,List.cons_append]
 gi_wp2_with (first
  | (gi_at_range;refine dX rfl _ 158 rfl hrg ?_)
  | gi_in)
 have hit0:(W.alloc (.mapIter none 0 #[] 0)).heap[W.heap.size]? = some (.mapIter none 0 #[] 0):=World.alloc_heap_new W _
 have hJ0:=hJ [] W _ none h0 (World.grownBy_alloc W (.mapIter none 0 #[] 0) none) (fun r e=>by cases e)
 generalize (W.alloc (.mapIter none 0 #[] 0))=W0 at hit0 hJ0 ⊢
 have hnx:∀ ty,(Instr.next (.pointer (some ⟨W.heap.size,0,none⟩)) false ty).run Tryz.prog W0= .ok (.tuple #[.bool false]) W0:=fun ty=>by
  simp[Instr.next,fK hit0 (by simp)]
 go_frame
 gi_loopw [3] (fun _ wr=>wr=W0) (fun _ _=>0)
 case atStart=>rfl
 case round=>
  subst hrel
  gi_wp2_with (first
   | (gi_at_next;refine eC rfl _ rfl (hnx _) ?_)
   | gi_in)
  go_end0
  exact⟨⟨_,rfl⟩,hJ0⟩
theorem sx(F:Fence)(n:Nat)(h10:F.fn 186)(hro:F.round=none)(hn:1≤n)(Bm Bo:Nat)(ks:List eV)(w:World) (hBm:Bm < w.heap.size)
  (hc:(w.cell? ⟨Bm,Bo,none⟩=some (.map none)∧ks=[])∨∃ b es clock,w.cell? ⟨Bm,Bo,none⟩=some (.map (some b))∧w.heap[b]? = some (.map es clock)∧iw es.toList clock∧es.toList.map (·.key)=ks.map iL):
  SeqStopsK F n Tryz.prog 186 #[.pointer (some ⟨Bm,Bo,none⟩)] (fun x:eV=>#[iL x]) KeepsWalks (fun ss=>ss.Perm ks) (fun _=>True) ks.length w:=fun l J Jx W hW hJ _ hY h0=>by
 rcases hc with ⟨hc,rfl⟩ | ⟨b,es,clock,hc,hmap,hst,hks⟩
 ·exact (wR F n h10 hro l Bm Bo J W hJ ((hW.cell (p:=⟨Bm,Bo,none⟩) hBm).trans hc) h0).mono fun e W' ⟨he,hj⟩=>⟨he,.inl ⟨[],.refl _,hj⟩⟩
 ·exact zi F n h10 hro hn l Bm Bo b es clock ks hks hst J Jx hY W hJ ((hW.cell (p:=⟨Bm,Bo,none⟩) hBm).trans hc) ((hW.block b (Array.getElem?_eq_some_iff.1 hmap).1).trans hmap) h0
set_option maxRecDepth 100000 in
set_option maxHeartbeats 2000000 in
theorem zj(F:Fence)(n:Nat)(h10:F.fn 295)(hro:F.round=none)(hn:1≤n)(l Bm Bo b:Nat)(es:Array MapEntry)(clock:Nat)(ks:List eV)(hks:es.toList.map (·.key)=ks.map iL)(hst:iw es.toList clock) (J Jx:List eV→World→Prop)
  (hY:∀ pre x W,J pre W→pre.length < ks.length→YieldAt F (n - 1) Tryz.prog l #[iL x] W fun e W'=>
   (e= .returned (.bool true)∧J (pre++[x]) W'∧KeepsWalks W W')∨(e= .returned (.bool false)∧Jx (pre++[x]) W'))
  (W:World) (hJ:AbidesFrom W.heap.size J) (hm:W.cell? ⟨Bm,Bo,none⟩=some (.map (some b))) (hmap:W.heap[b]? = some (.map es clock)) (h0:J [] W):
  CallsIn F n Tryz.prog 295 #[.func (.yield l) #[] #[],.pointer (some ⟨Bm,Bo,none⟩)] W fun e W'=>(∃ v,e= .returned v)∧
   ((∃ ss:List eV,ss.Perm ks∧J ss W')∨(∃ pre:List eV,True∧Jx pre W')):=by
 have hbl:b < W.heap.size:=(Array.getElem?_eq_some_iff.1 hmap).1
 have hlen:es.toList.length=ks.length:=by have:=congrArg List.length hks;simpa using this
 have hrg:(Instr.range 311 (.map (some b))).run Tryz.prog W= .ok (.pointer (some ⟨W.heap.size,0,none⟩)) (W.alloc (.mapIter (some b) clock #[] clock)):=by
  simp[Instr.range,run_underlying Tryz.underlying311,fK hmap (by simp)]
 refine callsIn_of_wp Tryz.func295 rfl h10 ?_ hro
 simp only[Tryz.ntmps295,List.size_toArray,List.length_cons,List.length_nil,Nat.reduceAdd,Nat.reduceSub,Array.replicate_succ,Array.replicate_zero,List.push_toArray,List.append_toArray,List.nil_append,List.cons_append]
 gi_wp2_with (first
  | (gi_at_range;refine dX rfl _ 311 rfl hrg ?_)
  | gi_in)
 have hg0:W.grownBy (W.alloc (.mapIter (some b) clock #[] clock)) none:=World.grownBy_alloc W _ none
 have hit0:(W.alloc (.mapIter (some b) clock #[] clock)).heap[W.heap.size]? = some (.mapIter (some b) clock #[] clock):=World.alloc_heap_new W _
 have hmp0:(W.alloc (.mapIter (some b) clock #[] clock)).heap[b]? = some (.map es clock):=(alloc_old W _ hbl).trans hmap
 have hJ0:=hJ [] W _ none h0 hg0 (fun r e=>by cases e)
 generalize (W.alloc (.mapIter (some b) clock #[] clock))=W0 at hit0 hmp0 hJ0 ⊢
 go_frame
 gi_loopw [3] (fun _ wr=>∃(seen:Array Nat)(last:Nat)(ss:List eV),wr.heap[W.heap.size]? = some (.mapIter (some b) clock seen last)∧clock≤last∧wr.heap[b]? = some (.map es clock)∧(ss++(cp es.toList seen).map (fun i=>ks[i]!)).Perm ks∧J ss wr)
  (fun _ wr=>pK wr W.heap.size b)
 case atStart=>
  refine⟨#[],clock,[],hit0,Nat.le_refl _,hmp0,?_,hJ0⟩
  rw[pb,hlen,List.nil_append]
  have:(List.range ks.length).map (fun i=>ks[i]!)=ks:=by
   apply List.ext_getElem
   ·simp
   ·intro i h1 h2;simp[List.getElem?_eq_getElem h2]
  rw[this]
 case round=>
  obtain⟨seen,last,ss,hit,hcl,hmp,hpm,hJs⟩:=hrel
  have hls:ss.length + (cp es.toList seen).length=ks.length:=by have:=hpm.length_eq;simpa using this
  have hiW:W.heap.size < wr.heap.size:=(Array.getElem?_eq_some_iff.1 hit).1
  gi_wp2_with (first
   | (gi_at_next;refine i8 rfl _ rfl rfl hit hmp hst.1 hcl ?_ ?_)
   | gi_in)
  ·intro i1
   gi_wp2
   go_end0
   rw[i1] at hpm
   exact⟨⟨_,rfl⟩,.inl ⟨ss,by simpa using hpm,hJs⟩⟩
  ·intro i u w1 i1 i2 i3
   have i2:es.toList[i]? = some u:=by simpa using i2
   have hil:i < ks.length:=by rw[← hlen];exact dt i2
   have hue:u.key=iL ks[i]!:=by
    have:(es.toList.map (·.key))[i]? = (ks.map iL)[i]?:=by rw[hks]
    rw[List.getElem?_map,List.getElem?_map,i2,List.getElem?_eq_getElem hil] at this
    simp only[Option.map_some,Option.some.injEq] at this
    rw[this,getElem!_pos ks i hil]
   have hperm:=oW (lE es.toList seen) i1
   have hpush:=jI hst.2 (seen:=seen) i2
   have hg1:wr.grownBy w1 none:=by rcases i3 with rfl | rfl;exact⟨rfl,rfl,rfl,Nat.le_refl _,fun _ _ _=>rfl⟩;exact qN _
   obtain⟨w2,hw2⟩:∃ w2,bZ w1 W.heap.size (.mapIter (some b) clock (seen.push u.born) clock)=w2:=⟨_,rfl⟩
   have hw1:w1.heap=wr.heap:=by rcases i3 with rfl | rfl <;> rfl
   have hit2:w2.heap[W.heap.size]? = some (.mapIter (some b) clock (seen.push u.born) clock):=by rw[← hw2];exact gb _ (by rw[hw1];exact hiW)
   have hmp2:w2.heap[b]? = some (.map es clock):=by rw[← hw2,bE _ _ _ (by omega),hw1];exact hmp
   have hJ1:J ss w1:=hJ ss wr w1 none hJs hg1 (fun r e=>by cases e)
   have hJ2:J ss w2:=by
    rw[← hw2]
    exact hJ ss w1 _ (some W.heap.size) hJ1 (gV w1 _ _) (fun r e=>by cases e;exact⟨Nat.le_refl _,_,by rw[hw1];exact hit,rfl⟩)
   have hen:=rP (P:=Tryz.prog) hit2 hmp2 hst i2
   rw[hue] at hen
   rw[hw2,hue]
   clear hw2
   have hsl:ss.length < ks.length:=by have:=hperm.length_eq;simp at this;omega
   generalize hkx:ks[i]! = kx at hen hue ⊢
   obtain⟨k1,k2⟩:=kx
   have hJ3:J ss (w2.alloc (.cells #[.string k1,.string k2] 65)):=hJ ss w2 _ none hJ2 (World.grownBy_alloc w2 _ none) (fun r e=>by cases e)
   have hit3:(w2.alloc (.cells #[.string k1,.string k2] 65)).heap[W.heap.size]? = some (.mapIter (some b) clock (seen.push u.born) clock):=(alloc_old w2 _ (Array.getElem?_eq_some_iff.1 hit2).1).trans hit2
   have hmp3:(w2.alloc (.cells #[.string k1,.string k2] 65)).heap[b]? = some (.map es clock):=(alloc_old w2 _ (Array.getElem?_eq_some_iff.1 hmp2).1).trans hmp2
   obtain⟨fn,tmps,assign,body,hy,hR⟩:=hY ss (k1,k2) _ hJ3 hsl
   simp only[iL] at hen hy ⊢
   gi_wp2
   refine hR.mono ?_
   rintro e W3 (⟨rfl,hJ3,hk3⟩ | ⟨rfl,hJx3⟩)
   ·gi_wp2
    have hit3:=hk3.same _ _ hit3 rfl
    have hmp3:=hk3.same _ _ hmp3 rfl
    go_roundw
    case rel=>
     refine⟨_,_,ss++[(k1,k2)],hit3,Nat.le_refl _,hmp3,?_,hJ3⟩
     rw[hpush]
     refine List.Perm.trans ?_ hpm
     rw[List.append_assoc]
     refine List.Perm.append_left ss ?_
     exact ((hperm.map fun i=>ks[i]!).trans (by rw[List.map_cons,hkx];rfl)).symm
    case measure=>
     simp only[pK,hit3,hmp3,hit,hmp,hpush]
     have:=hperm.length_eq
     simp at this
     omega
   ·gi_wp2
    refine bodyPost_ret (results_none rfl _ _ _) rfl ?_
    exact⟨⟨_,rfl⟩,.inr ⟨ss++[(k1,k2)],trivial,hJx3⟩⟩
set_option maxRecDepth 100000 in
set_option maxHeartbeats 1000000 in
theorem wS(F:Fence)(n:Nat)(h10:F.fn 295)(hro:F.round=none)(l Bm Bo:Nat)(J:List eV→World→Prop)(W:World)(hJ:AbidesFrom W.heap.size J)(hm:W.cell? ⟨Bm,Bo,none⟩=some (.map none))(h0:J [] W):
  CallsIn F n Tryz.prog 295 #[.func (.yield l) #[] #[],.pointer (some ⟨Bm,Bo,none⟩)] W fun e W'=>(∃ v,e= .returned v)∧J [] W':=by
 have hrg:(Instr.range 311 (.map none)).run Tryz.prog W= .ok (.pointer (some ⟨W.heap.size,0,none⟩)) (W.alloc (.mapIter none 0 #[] 0)):=by
  simp[Instr.range,run_underlying Tryz.underlying311]
 refine callsIn_of_wp Tryz.func295 rfl h10 ?_ hro
 simp only[Tryz.ntmps295,List.size_toArray,List.length_cons,List.length_nil,Nat.reduceAdd,Nat.reduceSub,Array.replicate_succ,Array.replicate_zero,List.push_toArray,List.append_toArray,List.nil_append,List.cons_append]
 gi_wp2_with (first
  | (gi_at_range;refine dX rfl _ 311 rfl hrg ?_)
  | gi_in)
 have hit0:(W.alloc (.mapIter none 0 #[] 0)).heap[W.heap.size]? = some (.mapIter none 0 #[] 0):=World.alloc_heap_new W _
 have hJ0:=hJ [] W _ none h0 (World.grownBy_alloc W (.mapIter none 0 #[] 0) none) (fun r e=>by cases e)
 generalize (W.alloc (.mapIter none 0 #[] 0))=W0 at hit0 hJ0 ⊢
 have hnx:∀ ty,(Instr.next (.pointer (some ⟨W.heap.size,0,none⟩)) false ty).run Tryz.prog W0= .ok (.tuple #[.bool false]) W0:=fun ty=>by
  simp[Instr.next,fK hit0 (by simp)]
 go_frame
 gi_loopw [3] (fun _ wr=>wr=W0) (fun _ _=>0)
 case atStart=>rfl
 case round=>
  subst hrel
  gi_wp2_with (first
   | (gi_at_next;refine eC rfl _ rfl (hnx _) ?_)
   | gi_in)
  go_end0
  exact⟨⟨_,rfl⟩,hJ0⟩
theorem sy(F:Fence)(n:Nat)(h10:F.fn 295)(hro:F.round=none)(hn:1≤n)(Bm Bo:Nat)(ks:List eV)(w:World) (hBm:Bm < w.heap.size)
  (hc:(w.cell? ⟨Bm,Bo,none⟩=some (.map none)∧ks=[])∨∃ b es clock,w.cell? ⟨Bm,Bo,none⟩=some (.map (some b))∧w.heap[b]? = some (.map es clock)∧iw es.toList clock∧es.toList.map (·.key)=ks.map iL):
  SeqStopsK F n Tryz.prog 295 #[.pointer (some ⟨Bm,Bo,none⟩)] (fun x:eV=>#[iL x]) KeepsWalks (fun ss=>ss.Perm ks) (fun _=>True) ks.length w:=fun l J Jx W hW hJ _ hY h0=>by
 rcases hc with ⟨hc,rfl⟩ | ⟨b,es,clock,hc,hmap,hst,hks⟩
 ·exact (wS F n h10 hro l Bm Bo J W hJ ((hW.cell (p:=⟨Bm,Bo,none⟩) hBm).trans hc) h0).mono fun e W' ⟨he,hj⟩=>⟨he,.inl ⟨[],.refl _,hj⟩⟩
 ·exact zj F n h10 hro hn l Bm Bo b es clock ks hks hst J Jx hY W hJ ((hW.cell (p:=⟨Bm,Bo,none⟩) hBm).trans hc) ((hW.block b (Array.getElem?_eq_some_iff.1 hmap).1).trans hmap) h0
attribute [local go_sem] Oper.semAt_some
def iy(x:eV):List Value:=[.string x.1,.string x.2]
theorem Kv:(Tryz.prog.info? 65).map (fun i=>(i.zero,i.size,i.bytes))=some (some (.agg #[.string ⟨#[]⟩,.string ⟨#[]⟩]),2,32):=by kernel_rfl
theorem cell_two_new(w:World)(x y:Value)(t:TypeId):∀ j u,[x,y][j]? = some u→(w.alloc (.cells #[x,y] t)).cell? ((⟨w.heap.size,0,none⟩:Addr).add j)=some u:=by
 intro j u hj
 match j,hj with
 | 0,hj=>simp at hj;subst hj;simp[Addr.add]
 | 1,hj=>simp at hj;subst hj;simp[Addr.add]
set_option maxRecDepth 100000 in
set_option maxHeartbeats 4000000 in
theorem J4(F:Fence)(n:Nat)(h3:F.fn 261)(hro:F.round=none)(hn:3≤n)(g:Nat)(lb:Array Value)(hFg:F.fn g)(eg:∀ args w,(callFunc g args).run Tryz.prog w= .ok (.enter g args) w)(S Sp:List eV→Prop)(N:Nat)(hN:N≤1000000) (w:World)
  (hseq:SeqStopsK F (n - 1) Tryz.prog g lb (fun x:eV=>#[iL x]) KeepsWalks S Sp N w):
  CallsIn F n Tryz.prog 261 #[.slice none 0 0,.func (.func g) #[] lb] w fun e w'=>∃ v ss,e= .returned v∧S ss∧w'.ownsRow w.heap.size 65 2 v ss.length (ss.flatMap iy)∧(v= .slice none 0 0↔ss=[])∧Below w.heap.size w w':=by
 have h1:1≤n:=by omega
 obtain⟨i0,hi,hz0,hz1,hz2⟩:=info_parts Kv
 refine callsIn_of_wp_marks Tryz.func261 rfl h3 ?_ hro
 simp only[Tryz.ntmps261,List.size_toArray,List.length_cons,List.length_nil,Nat.reduceAdd,Nat.reduceSub,Array.replicate_succ,Array.replicate_zero,List.push_toArray,List.append_toArray,List.nil_append,List.cons_append]
 gi_wp2
 have b0:=Boxed.new w 79 (.slice none 0 0)
 have hB0:Below w.heap.size w (w.alloc (.cells #[.slice none 0 0] 79)):=(Below.refl _ w).alloc (Nat.le_refl _) _
 have hsz:(w.alloc (.cells #[.slice none 0 0] 79)).heap.size=w.heap.size + 1:=by simp
 obtain⟨W0,hW0⟩:∃ W0,w.alloc (.cells #[.slice none 0 0] 79)=W0:=⟨_,rfl⟩
 rw[hW0] at b0 hB0 hsz ⊢
 clear hW0
 refine wpIn_rangeFunc_ownH hro h1 (gf:=g) (lb:=lb) rfl hFg eg hseq walksK_t walksK_b hB0 (fun _=>rfl)
  (fun pre W=>(∃ v,Boxed W w.heap.size 79 v∧W.ownsRow w.heap.size 65 2 v pre.length (pre.flatMap iy)∧(v= .slice none 0 0↔pre=[]))∧Below w.heap.size w W)
  (fun _ _ _=>False)
  ?hI (fun c s A B row h=>h.elim) ⟨⟨_,b0,World.ownsRow_nil _ _ _ _,by simp⟩,hB0⟩
  (fun y a' W=>∃ Bx,w.heap.size < Bx∧W.heap[Bx]? = some (.cells #[.string y.1,.string y.2] 65 (0,0))∧a'= { tmps:=#[.slice none 0 0,.func (.func g) #[] lb,.pointer (some ⟨w.heap.size,0,none⟩),undef,.slice none 0 0,.pointer (some ⟨Bx,0,none⟩),.func (.func g) #[] lb,iL y,undef,undef,undef,undef,undef],defers:=[] })
  (fun y a' _ X Y row hs hg hr=>by
   obtain⟨Bx,h1,h2,h3⟩:=hs
   exact⟨Bx,h1,(hg.block Bx (Array.getElem?_eq_some_iff.1 h2).1 (fun e=>by obtain⟨_,o,ho,hc⟩:=hr Bx e.symm;rw[h2] at ho;cases ho;cases hc)).trans h2,h3⟩)
  ?assign ?body ?done ?stop
 case hI=>
  exact OwnFrom.and (Own.from (holdsRow_own w.heap.size w.heap.size 79 65 2 (fun pre:List eV=>pre.length) (fun pre=>pre.flatMap iy) (fun pre v=>(v= .slice none 0 0↔pre=[]))) _) (ownFrom_below (Nat.le_refl _) (by omega))
 case assign=>
  rintro l pre y W K ⟨⟨v,hv,hr,hnl⟩,hB⟩ hK
  obtain⟨y1,y2⟩:=y
  simp only[iL] at hK ⊢
  gi_wp2
  exact hK _ _ ((KeepsOthers.alloc _ _).from _) (KeepsWalks.alloc _ _) ⟨⟨v,hv.alloc _,hr.alloc _,hnl⟩,hB.alloc hB.size _⟩ ⟨W.heap.size,hv.lt,World.alloc_heap_new W _,rfl⟩
 case body=>
  rintro l pre y a' W hl ⟨r,hr⟩ ⟨⟨v,hv,hrow,hnl⟩,hB⟩ ⟨Bx,hlt,rx,rfl⟩ hlen
  obtain⟨y1,y2⟩:=y
  simp only at rx ⊢
  have sb:W.cell? ⟨Bx,0,none⟩=some (.string y1):=by simp[World.cell?,rx]
  have cx1:W.cell? ⟨Bx,1,none⟩=some (.string y2):=by simp[World.cell?,rx]
  have hvc:=hv.cell
  gi_wp2_with (first
   | (gi_at_builtin;refine wpListIn_append_own _ rfl _ _ 79 rfl w.heap.size 65 i0 (.agg #[.string ⟨#[]⟩,.string ⟨#[]⟩]) 2 32 Tryz.underlying79 hi hz0 hz1 hz2 rfl (by decide) _ _ _ rfl (hrow.alloc _) ⟨W.heap.size,0,none⟩ 1 1 [.string y1,.string y2] rfl rfl (cell_two_new _ _ _ _) (by simp[Value.oneCell']) (by unfold maxLen;omega) (by omega) (by have:=hB.size;simp;omega) ?_;intro v' w1 hown' hgrow _;obtain⟨g',cap',rfl⟩:=ownsRow_succ hown';obtain⟨hv1,hv2,hr2,hk2,hb2⟩:=hv.appended (by decide) hrow hB.size (Nat.le_refl _) hown' hgrow;have hc1:=hv1.cell;have hf1:=hv1.frozen)
   | gi_in)
  refine⟨hk2.from _,⟨hk2.size,fun k o h hw=>hk2.same k o h (Obj.not_cells_of_walk hw)⟩,⟨_,hv2,?_,by simp⟩,hB.trans hb2⟩
  have e1:(pre++[(y1,y2)]).length=pre.length + 1:=by simp
  have e2:(pre++[(y1,y2)]).flatMap iy=pre.flatMap iy++[.string y1,.string y2]:=by simp[iy]
  rw[e1,e2]
  exact hr2
 case done=>
  rintro D ys W hD hS ⟨⟨v,hv,hrow,hnl⟩,hB⟩ hK
  have hvc:=hv.cell
  gi_wp2
  refine⟨by simp,.inl ⟨_,_,rfl,run_takeDeferred hK,?_⟩⟩
  exact⟨_,results_tmp rfl _ _ _,v,ys,rfl,hS,ownsRow_putObj hrow _ hK rfl,hnl,hB.trans (belowK_b (w:=w) (Nat.le_refl _) W D _ _ (by omega) hK rfl rfl)⟩
 case stop=>
  rintro D c pre W hD _ h hK
  exact h.elim
end Go.Proofs.YtkkabinknmldeaaGreat
