/- What the functions compute, part 5. Conditions: bounds. -/
import Derived.Test.YtbndmpiddinalacGreatDoorTd
set_option linter.defProp false
set_option linter.unusedSimpArgs false
set_option linter.unusedVariables false
namespace Go.Proofs.YtbndmpiddinalacGreatDoor
open Go Go.Av Go.Av.Ap
set_option maxRecDepth 100000
@[simp] theorem FA30_0(cs:List AV):ah T 30 (.ip cs) 0=some (.ip (cs.drop 0)):=rfl
@[simp] theorem FH30_0(l k:Nat):ah T 30 (.hp l k) 0=some (.hp l (k+0)):=rfl
@[simp] theorem FA30_1(cs:List AV):ah T 30 (.ip cs) 1=some (.ip (cs.drop 1)):=rfl
@[simp] theorem FH30_1(l k:Nat):ah T 30 (.hp l k) 1=some (.hp l (k+1)):=rfl
@[simp] theorem FA30_2(cs:List AV):ah T 30 (.ip cs) 2=some (.ip (cs.drop 2)):=rfl
@[simp] theorem FH30_2(l k:Nat):ah T 30 (.hp l k) 2=some (.hp l (k+2)):=rfl
@[simp] theorem FA30_3(cs:List AV):ah T 30 (.ip cs) 3=some (.ip (cs.drop 3)):=rfl
@[simp] theorem FH30_3(l k:Nat):ah T 30 (.hp l k) 3=some (.hp l (k+3)):=rfl
@[simp] theorem FA34_0(cs:List AV):ah T 34 (.ip cs) 0=some (.ip (cs.drop 0)):=rfl
@[simp] theorem FH34_0(l k:Nat):ah T 34 (.hp l k) 0=some (.hp l (k+0)):=rfl
@[simp] theorem FA34_1(cs:List AV):ah T 34 (.ip cs) 1=some (.ip (cs.drop 1)):=rfl
@[simp] theorem FH34_1(l k:Nat):ah T 34 (.hp l k) 1=some (.hp l (k+1)):=rfl
@[simp] theorem FA34_2(cs:List AV):ah T 34 (.ip cs) 2=some (.ip (cs.drop 5)):=rfl
@[simp] theorem FH34_2(l k:Nat):ah T 34 (.hp l k) 2=some (.hp l (k+5)):=rfl
@[simp] theorem FA34_3(cs:List AV):ah T 34 (.ip cs) 3=some (.ip (cs.drop 6)):=rfl
@[simp] theorem FH34_3(l k:Nat):ah T 34 (.hp l k) 3=some (.hp l (k+6)):=rfl
@[simp] theorem FA34_4(cs:List AV):ah T 34 (.ip cs) 4=some (.ip (cs.drop 7)):=rfl
@[simp] theorem FH34_4(l k:Nat):ah T 34 (.hp l k) 4=some (.hp l (k+7)):=rfl
@[simp] theorem FA36_0(cs:List AV):ah T 36 (.ip cs) 0=some (.ip (cs.drop 0)):=rfl
@[simp] theorem FH36_0(l k:Nat):ah T 36 (.hp l k) 0=some (.hp l (k+0)):=rfl
@[simp] theorem FA36_1(cs:List AV):ah T 36 (.ip cs) 1=some (.ip (cs.drop 1)):=rfl
@[simp] theorem FH36_1(l k:Nat):ah T 36 (.hp l k) 1=some (.hp l (k+1)):=rfl
@[simp] theorem FA36_2(cs:List AV):ah T 36 (.ip cs) 2=some (.ip (cs.drop 2)):=rfl
@[simp] theorem FH36_2(l k:Nat):ah T 36 (.hp l k) 2=some (.hp l (k+2)):=rfl
@[simp] theorem FA36_3(cs:List AV):ah T 36 (.ip cs) 3=some (.ip (cs.drop 3)):=rfl
@[simp] theorem FH36_3(l k:Nat):ah T 36 (.hp l k) 3=some (.hp l (k+3)):=rfl
@[simp] theorem FA36_4(cs:List AV):ah T 36 (.ip cs) 4=some (.ip (cs.drop 4)):=rfl
@[simp] theorem FH36_4(l k:Nat):ah T 36 (.hp l k) 4=some (.hp l (k+4)):=rfl
@[simp] theorem FA36_5(cs:List AV):ah T 36 (.ip cs) 5=some (.ip (cs.drop 12)):=rfl
@[simp] theorem FH36_5(l k:Nat):ah T 36 (.hp l k) 5=some (.hp l (k+12)):=rfl
@[simp] theorem FA44_0(cs:List AV):ah T 44 (.ip cs) 0=some (.ip (cs.drop 0)):=rfl
@[simp] theorem FH44_0(l k:Nat):ah T 44 (.hp l k) 0=some (.hp l (k+0)):=rfl
@[simp] theorem FA44_1(cs:List AV):ah T 44 (.ip cs) 1=some (.ip (cs.drop 1)):=rfl
@[simp] theorem FH44_1(l k:Nat):ah T 44 (.hp l k) 1=some (.hp l (k+1)):=rfl
@[simp] theorem FA44_2(cs:List AV):ah T 44 (.ip cs) 2=some (.ip (cs.drop 2)):=rfl
@[simp] theorem FH44_2(l k:Nat):ah T 44 (.hp l k) 2=some (.hp l (k+2)):=rfl
@[simp] theorem FA44_3(cs:List AV):ah T 44 (.ip cs) 3=some (.ip (cs.drop 3)):=rfl
@[simp] theorem FH44_3(l k:Nat):ah T 44 (.hp l k) 3=some (.hp l (k+3)):=rfl
@[simp] theorem FA44_4(cs:List AV):ah T 44 (.ip cs) 4=some (.ip (cs.drop 4)):=rfl
@[simp] theorem FH44_4(l k:Nat):ah T 44 (.hp l k) 4=some (.hp l (k+4)):=rfl
@[simp] theorem FA51_0(cs:List AV):ah T 51 (.ip cs) 0=some (.ip (cs.drop 0)):=rfl
@[simp] theorem FH51_0(l k:Nat):ah T 51 (.hp l k) 0=some (.hp l (k+0)):=rfl
@[simp] theorem FA51_1(cs:List AV):ah T 51 (.ip cs) 1=some (.ip (cs.drop 1)):=rfl
@[simp] theorem FH51_1(l k:Nat):ah T 51 (.hp l k) 1=some (.hp l (k+1)):=rfl
@[simp] theorem FA51_2(cs:List AV):ah T 51 (.ip cs) 2=some (.ip (cs.drop 2)):=rfl
@[simp] theorem FH51_2(l k:Nat):ah T 51 (.hp l k) 2=some (.hp l (k+2)):=rfl
@[simp] theorem FA53_0(cs:List AV):ah T 53 (.ip cs) 0=some (.ip (cs.drop 0)):=rfl
@[simp] theorem FH53_0(l k:Nat):ah T 53 (.hp l k) 0=some (.hp l (k+0)):=rfl
@[simp] theorem FA53_1(cs:List AV):ah T 53 (.ip cs) 1=some (.ip (cs.drop 1)):=rfl
@[simp] theorem FH53_1(l k:Nat):ah T 53 (.hp l k) 1=some (.hp l (k+1)):=rfl
@[simp] theorem FA53_2(cs:List AV):ah T 53 (.ip cs) 2=some (.ip (cs.drop 2)):=rfl
@[simp] theorem FH53_2(l k:Nat):ah T 53 (.hp l k) 2=some (.hp l (k+2)):=rfl
@[simp] theorem FA53_3(cs:List AV):ah T 53 (.ip cs) 3=some (.ip (cs.drop 3)):=rfl
@[simp] theorem FH53_3(l k:Nat):ah T 53 (.hp l k) 3=some (.hp l (k+3)):=rfl
@[simp] theorem FA53_4(cs:List AV):ah T 53 (.ip cs) 4=some (.ip (cs.drop 4)):=rfl
@[simp] theorem FH53_4(l k:Nat):ah T 53 (.hp l k) 4=some (.hp l (k+4)):=rfl
@[simp] theorem FA53_5(cs:List AV):ah T 53 (.ip cs) 5=some (.ip (cs.drop 5)):=rfl
@[simp] theorem FH53_5(l k:Nat):ah T 53 (.hp l k) 5=some (.hp l (k+5)):=rfl
@[simp] theorem FA53_6(cs:List AV):ah T 53 (.ip cs) 6=some (.ip (cs.drop 6)):=rfl
@[simp] theorem FH53_6(l k:Nat):ah T 53 (.hp l k) 6=some (.hp l (k+6)):=rfl
@[simp] theorem FA58_0(cs:List AV):ah T 58 (.ip cs) 0=some (.ip (cs.drop 0)):=rfl
@[simp] theorem FH58_0(l k:Nat):ah T 58 (.hp l k) 0=some (.hp l (k+0)):=rfl
@[simp] theorem FA58_1(cs:List AV):ah T 58 (.ip cs) 1=some (.ip (cs.drop 1)):=rfl
@[simp] theorem FH58_1(l k:Nat):ah T 58 (.hp l k) 1=some (.hp l (k+1)):=rfl
@[simp] theorem FA65_0(cs:List AV):ah T 65 (.ip cs) 0=some (.ip (cs.drop 0)):=rfl
@[simp] theorem FH65_0(l k:Nat):ah T 65 (.hp l k) 0=some (.hp l (k+0)):=rfl
@[simp] theorem FA65_1(cs:List AV):ah T 65 (.ip cs) 1=some (.ip (cs.drop 1)):=rfl
@[simp] theorem FH65_1(l k:Nat):ah T 65 (.hp l k) 1=some (.hp l (k+1)):=rfl
@[simp] theorem FA65_2(cs:List AV):ah T 65 (.ip cs) 2=some (.ip (cs.drop 2)):=rfl
@[simp] theorem FH65_2(l k:Nat):ah T 65 (.hp l k) 2=some (.hp l (k+2)):=rfl
@[simp] theorem FA73_0(cs:List AV):ah T 73 (.ip cs) 0=some (.ip (cs.drop 0)):=rfl
@[simp] theorem FH73_0(l k:Nat):ah T 73 (.hp l k) 0=some (.hp l (k+0)):=rfl
@[simp] theorem FA73_1(cs:List AV):ah T 73 (.ip cs) 1=some (.ip (cs.drop 13)):=rfl
@[simp] theorem FH73_1(l k:Nat):ah T 73 (.hp l k) 1=some (.hp l (k+13)):=rfl
@[simp] theorem FA73_2(cs:List AV):ah T 73 (.ip cs) 2=some (.ip (cs.drop 14)):=rfl
@[simp] theorem FH73_2(l k:Nat):ah T 73 (.hp l k) 2=some (.hp l (k+14)):=rfl
@[simp] theorem FA81_0(cs:List AV):ah T 81 (.ip cs) 0=some (.ip (cs.drop 0)):=rfl
@[simp] theorem FH81_0(l k:Nat):ah T 81 (.hp l k) 0=some (.hp l (k+0)):=rfl
@[simp] theorem FA81_1(cs:List AV):ah T 81 (.ip cs) 1=some (.ip (cs.drop 1)):=rfl
@[simp] theorem FH81_1(l k:Nat):ah T 81 (.hp l k) 1=some (.hp l (k+1)):=rfl
@[simp] theorem FA91_0(cs:List AV):ah T 91 (.ip cs) 0=some (.ip (cs.drop 0)):=rfl
@[simp] theorem FH91_0(l k:Nat):ah T 91 (.hp l k) 0=some (.hp l (k+0)):=rfl
@[simp] theorem FA91_1(cs:List AV):ah T 91 (.ip cs) 1=some (.ip (cs.drop 1)):=rfl
@[simp] theorem FH91_1(l k:Nat):ah T 91 (.hp l k) 1=some (.hp l (k+1)):=rfl
@[simp] theorem FA91_2(cs:List AV):ah T 91 (.ip cs) 2=some (.ip (cs.drop 2)):=rfl
@[simp] theorem FH91_2(l k:Nat):ah T 91 (.hp l k) 2=some (.hp l (k+2)):=rfl
@[simp] theorem FA91_3(cs:List AV):ah T 91 (.ip cs) 3=some (.ip (cs.drop 3)):=rfl
@[simp] theorem FH91_3(l k:Nat):ah T 91 (.hp l k) 3=some (.hp l (k+3)):=rfl
@[simp] theorem FA93_1(cs:List AV):ah T 93 (.ip cs) 1=some (.ip (cs.drop 1)):=rfl
@[simp] theorem FH93_1(l k:Nat):ah T 93 (.hp l k) 1=some (.hp l (k+1)):=rfl
@[simp] theorem FA93_2(cs:List AV):ah T 93 (.ip cs) 2=some (.ip (cs.drop 2)):=rfl
@[simp] theorem FH93_2(l k:Nat):ah T 93 (.hp l k) 2=some (.hp l (k+2)):=rfl
@[simp] theorem FA93_3(cs:List AV):ah T 93 (.ip cs) 3=some (.ip (cs.drop 6)):=rfl
@[simp] theorem FH93_3(l k:Nat):ah T 93 (.hp l k) 3=some (.hp l (k+6)):=rfl
@[simp] theorem FA113_0(cs:List AV):ah T 113 (.ip cs) 0=some (.ip (cs.drop 0)):=rfl
@[simp] theorem FH113_0(l k:Nat):ah T 113 (.hp l k) 0=some (.hp l (k+0)):=rfl
@[simp] theorem FA113_1(cs:List AV):ah T 113 (.ip cs) 1=some (.ip (cs.drop 1)):=rfl
@[simp] theorem FH113_1(l k:Nat):ah T 113 (.hp l k) 1=some (.hp l (k+1)):=rfl
@[simp] theorem FA113_2(cs:List AV):ah T 113 (.ip cs) 2=some (.ip (cs.drop 2)):=rfl
@[simp] theorem FH113_2(l k:Nat):ah T 113 (.hp l k) 2=some (.hp l (k+2)):=rfl
@[simp] theorem FA113_3(cs:List AV):ah T 113 (.ip cs) 3=some (.ip (cs.drop 3)):=rfl
@[simp] theorem FH113_3(l k:Nat):ah T 113 (.hp l k) 3=some (.hp l (k+3)):=rfl
@[simp] theorem FA113_4(cs:List AV):ah T 113 (.ip cs) 4=some (.ip (cs.drop 4)):=rfl
@[simp] theorem FH113_4(l k:Nat):ah T 113 (.hp l k) 4=some (.hp l (k+4)):=rfl
@[simp] theorem FA119_0(cs:List AV):ah T 119 (.ip cs) 0=some (.ip (cs.drop 0)):=rfl
@[simp] theorem FH119_0(l k:Nat):ah T 119 (.hp l k) 0=some (.hp l (k+0)):=rfl
@[simp] theorem FA119_1(cs:List AV):ah T 119 (.ip cs) 1=some (.ip (cs.drop 1)):=rfl
@[simp] theorem FH119_1(l k:Nat):ah T 119 (.hp l k) 1=some (.hp l (k+1)):=rfl
@[simp] theorem FA121_0(cs:List AV):ah T 121 (.ip cs) 0=some (.ip (cs.drop 0)):=rfl
@[simp] theorem FH121_0(l k:Nat):ah T 121 (.hp l k) 0=some (.hp l (k+0)):=rfl
@[simp] theorem FA121_1(cs:List AV):ah T 121 (.ip cs) 1=some (.ip (cs.drop 1)):=rfl
@[simp] theorem FH121_1(l k:Nat):ah T 121 (.hp l k) 1=some (.hp l (k+1)):=rfl
@[simp] theorem FA121_2(cs:List AV):ah T 121 (.ip cs) 2=some (.ip (cs.drop 2)):=rfl
@[simp] theorem FH121_2(l k:Nat):ah T 121 (.hp l k) 2=some (.hp l (k+2)):=rfl
@[simp] theorem FA121_3(cs:List AV):ah T 121 (.ip cs) 3=some (.ip (cs.drop 3)):=rfl
@[simp] theorem FH121_3(l k:Nat):ah T 121 (.hp l k) 3=some (.hp l (k+3)):=rfl
@[simp] theorem FA121_4(cs:List AV):ah T 121 (.ip cs) 4=some (.ip (cs.drop 4)):=rfl
@[simp] theorem FH121_4(l k:Nat):ah T 121 (.hp l k) 4=some (.hp l (k+4)):=rfl
@[simp] theorem FA121_5(cs:List AV):ah T 121 (.ip cs) 5=some (.ip (cs.drop 5)):=rfl
@[simp] theorem FH121_5(l k:Nat):ah T 121 (.hp l k) 5=some (.hp l (k+5)):=rfl
@[simp] theorem FA123_0(cs:List AV):ah T 123 (.ip cs) 0=some (.ip (cs.drop 0)):=rfl
@[simp] theorem FH123_0(l k:Nat):ah T 123 (.hp l k) 0=some (.hp l (k+0)):=rfl
@[simp] theorem FA123_1(cs:List AV):ah T 123 (.ip cs) 1=some (.ip (cs.drop 1)):=rfl
@[simp] theorem FH123_1(l k:Nat):ah T 123 (.hp l k) 1=some (.hp l (k+1)):=rfl
@[simp] theorem FA123_2(cs:List AV):ah T 123 (.ip cs) 2=some (.ip (cs.drop 2)):=rfl
@[simp] theorem FH123_2(l k:Nat):ah T 123 (.hp l k) 2=some (.hp l (k+2)):=rfl
@[simp] theorem FA123_3(cs:List AV):ah T 123 (.ip cs) 3=some (.ip (cs.drop 3)):=rfl
@[simp] theorem FH123_3(l k:Nat):ah T 123 (.hp l k) 3=some (.hp l (k+3)):=rfl
@[simp] theorem FA123_4(cs:List AV):ah T 123 (.ip cs) 4=some (.ip (cs.drop 5)):=rfl
@[simp] theorem FH123_4(l k:Nat):ah T 123 (.hp l k) 4=some (.hp l (k+5)):=rfl
@[simp] theorem FA123_5(cs:List AV):ah T 123 (.ip cs) 5=some (.ip (cs.drop 6)):=rfl
@[simp] theorem FH123_5(l k:Nat):ah T 123 (.hp l k) 5=some (.hp l (k+6)):=rfl
@[simp] theorem FA130_0(cs:List AV):ah T 130 (.ip cs) 0=some (.ip (cs.drop 0)):=rfl
@[simp] theorem FH130_0(l k:Nat):ah T 130 (.hp l k) 0=some (.hp l (k+0)):=rfl
@[simp] theorem FA130_1(cs:List AV):ah T 130 (.ip cs) 1=some (.ip (cs.drop 1)):=rfl
@[simp] theorem FH130_1(l k:Nat):ah T 130 (.hp l k) 1=some (.hp l (k+1)):=rfl
@[simp] theorem FA130_2(cs:List AV):ah T 130 (.ip cs) 2=some (.ip (cs.drop 2)):=rfl
@[simp] theorem FH130_2(l k:Nat):ah T 130 (.hp l k) 2=some (.hp l (k+2)):=rfl
@[simp] theorem FA143_0(cs:List AV):ah T 143 (.ip cs) 0=some (.ip (cs.drop 0)):=rfl
@[simp] theorem FH143_0(l k:Nat):ah T 143 (.hp l k) 0=some (.hp l (k+0)):=rfl
@[simp] theorem FA143_1(cs:List AV):ah T 143 (.ip cs) 1=some (.ip (cs.drop 1)):=rfl
@[simp] theorem FH143_1(l k:Nat):ah T 143 (.hp l k) 1=some (.hp l (k+1)):=rfl
@[simp] theorem FA166_0(cs:List AV):ah T 166 (.ip cs) 0=some (.ip (cs.drop 0)):=rfl
@[simp] theorem FH166_0(l k:Nat):ah T 166 (.hp l k) 0=some (.hp l (k+0)):=rfl
@[simp] theorem FA166_1(cs:List AV):ah T 166 (.ip cs) 1=some (.ip (cs.drop 1)):=rfl
@[simp] theorem FH166_1(l k:Nat):ah T 166 (.hp l k) 1=some (.hp l (k+1)):=rfl
@[simp] theorem FA166_2(cs:List AV):ah T 166 (.ip cs) 2=some (.ip (cs.drop 2)):=rfl
@[simp] theorem FH166_2(l k:Nat):ah T 166 (.hp l k) 2=some (.hp l (k+2)):=rfl
@[simp] theorem FA166_3(cs:List AV):ah T 166 (.ip cs) 3=some (.ip (cs.drop 3)):=rfl
@[simp] theorem FH166_3(l k:Nat):ah T 166 (.hp l k) 3=some (.hp l (k+3)):=rfl
@[simp] theorem FA166_4(cs:List AV):ah T 166 (.ip cs) 4=some (.ip (cs.drop 4)):=rfl
@[simp] theorem FH166_4(l k:Nat):ah T 166 (.hp l k) 4=some (.hp l (k+4)):=rfl
@[simp] theorem FA202_0(cs:List AV):ah T 202 (.ip cs) 0=some (.ip (cs.drop 0)):=rfl
@[simp] theorem FH202_0(l k:Nat):ah T 202 (.hp l k) 0=some (.hp l (k+0)):=rfl
@[simp] theorem FA202_1(cs:List AV):ah T 202 (.ip cs) 1=some (.ip (cs.drop 1)):=rfl
@[simp] theorem FH202_1(l k:Nat):ah T 202 (.hp l k) 1=some (.hp l (k+1)):=rfl
@[simp] theorem FA202_2(cs:List AV):ah T 202 (.ip cs) 2=some (.ip (cs.drop 2)):=rfl
@[simp] theorem FH202_2(l k:Nat):ah T 202 (.hp l k) 2=some (.hp l (k+2)):=rfl
@[simp] theorem FA212_0(cs:List AV):ah T 212 (.ip cs) 0=some (.ip (cs.drop 0)):=rfl
@[simp] theorem FH212_0(l k:Nat):ah T 212 (.hp l k) 0=some (.hp l (k+0)):=rfl
@[simp] theorem FA212_1(cs:List AV):ah T 212 (.ip cs) 1=some (.ip (cs.drop 1)):=rfl
@[simp] theorem FH212_1(l k:Nat):ah T 212 (.hp l k) 1=some (.hp l (k+1)):=rfl
@[simp] theorem FA212_2(cs:List AV):ah T 212 (.ip cs) 2=some (.ip (cs.drop 2)):=rfl
@[simp] theorem FH212_2(l k:Nat):ah T 212 (.hp l k) 2=some (.hp l (k+2)):=rfl
@[simp] theorem FA227_0(cs:List AV):ah T 227 (.ip cs) 0=some (.ip (cs.drop 0)):=rfl
@[simp] theorem FH227_0(l k:Nat):ah T 227 (.hp l k) 0=some (.hp l (k+0)):=rfl
@[simp] theorem LD3(x:AV)(l:List AV):ax T 3 (.ip (x:: l))=some x:=rfl
@[simp] theorem LD4(x:AV)(l:List AV):ax T 4 (.ip (x:: l))=some x:=rfl
@[simp] theorem LD9(x:AV)(l:List AV):ax T 9 (.ip (x:: l))=some x:=rfl
@[simp] theorem LD22(x:AV)(l:List AV):ax T 22 (.ip (x:: l))=some x:=rfl
@[simp] theorem LD23(x:AV)(l:List AV):ax T 23 (.ip (x:: l))=some x:=rfl
@[simp] theorem LD24(x:AV)(l:List AV):ax T 24 (.ip (x:: l))=some x:=rfl
@[simp] theorem LD25(x:AV)(l:List AV):ax T 25 (.ip (x:: l))=some x:=rfl
@[simp] theorem LD26(x:AV)(l:List AV):ax T 26 (.ip (x:: l))=some x:=rfl
@[simp] theorem LD27(x:AV)(l:List AV):ax T 27 (.ip (x:: l))=some x:=rfl
@[simp] theorem LD28(x:AV)(l:List AV):ax T 28 (.ip (x:: l))=some x:=rfl
@[simp] theorem LD30(cs:List AV):ax T 30 (.ip cs)=if 4<=cs.length then some (.agg (cs.take 4))else none:=rfl
@[simp] theorem LD31(x:AV)(l:List AV):ax T 31 (.ip (x:: l))=some x:=rfl
@[simp] theorem LD32(x:AV)(l:List AV):ax T 32 (.ip (x:: l))=some x:=rfl
@[simp] theorem LD34(cs:List AV):ax T 34 (.ip cs)=if 8<=cs.length then some (.agg (cs.take 8))else none:=rfl
@[simp] theorem LD36(cs:List AV):ax T 36 (.ip cs)=if 13<=cs.length then some (.agg (cs.take 13))else none:=rfl
@[simp] theorem LD44(cs:List AV):ax T 44 (.ip cs)=if 5<=cs.length then some (.agg (cs.take 5))else none:=rfl
@[simp] theorem LD47(x:AV)(l:List AV):ax T 47 (.ip (x:: l))=some x:=rfl
@[simp] theorem LD48(x:AV)(l:List AV):ax T 48 (.ip (x:: l))=some x:=rfl
@[simp] theorem LD49(x:AV)(l:List AV):ax T 49 (.ip (x:: l))=some x:=rfl
@[simp] theorem LD53(cs:List AV):ax T 53 (.ip cs)=if 9<=cs.length then some (.agg (cs.take 9))else none:=rfl
@[simp] theorem LD58(cs:List AV):ax T 58 (.ip cs)=if 2<=cs.length then some (.agg (cs.take 2))else none:=rfl
@[simp] theorem LD70(x:AV)(l:List AV):ax T 70 (.ip (x:: l))=some x:=rfl
@[simp] theorem LD71(x:AV)(l:List AV):ax T 71 (.ip (x:: l))=some x:=rfl
@[simp] theorem LD76(x:AV)(l:List AV):ax T 76 (.ip (x:: l))=some x:=rfl
@[simp] theorem LD79(x:AV)(l:List AV):ax T 79 (.ip (x:: l))=some x:=rfl
@[simp] theorem LD89(x:AV)(l:List AV):ax T 89 (.ip (x:: l))=some x:=rfl
@[simp] theorem LD91(cs:List AV):ax T 91 (.ip cs)=if 4<=cs.length then some (.agg (cs.take 4))else none:=rfl
@[simp] theorem LD93(cs:List AV):ax T 93 (.ip cs)=if 7<=cs.length then some (.agg (cs.take 7))else none:=rfl
@[simp] theorem LD102(cs:List AV):ax T 102 (.ip cs)=if 3<=cs.length then some (.agg (cs.take 3))else none:=rfl
@[simp] theorem LD113(cs:List AV):ax T 113 (.ip cs)=if 5<=cs.length then some (.agg (cs.take 5))else none:=rfl
@[simp] theorem LD119(cs:List AV):ax T 119 (.ip cs)=if 2<=cs.length then some (.agg (cs.take 2))else none:=rfl
@[simp] theorem LD121(cs:List AV):ax T 121 (.ip cs)=if 6<=cs.length then some (.agg (cs.take 6))else none:=rfl
@[simp] theorem LD123(cs:List AV):ax T 123 (.ip cs)=if 12<=cs.length then some (.agg (cs.take 12))else none:=rfl
@[simp] theorem LD130(cs:List AV):ax T 130 (.ip cs)=if 4<=cs.length then some (.agg (cs.take 4))else none:=rfl
@[simp] theorem LD143(cs:List AV):ax T 143 (.ip cs)=if 3<=cs.length then some (.agg (cs.take 3))else none:=rfl
@[simp] theorem LD164(x:AV)(l:List AV):ax T 164 (.ip (x:: l))=some x:=rfl
@[simp] theorem LD190(cs:List AV):ax T 190 (.ip cs)=if 14<=cs.length then some (.agg (cs.take 14))else none:=rfl
@[simp] theorem LD212(cs:List AV):ax T 212 (.ip cs)=if 3<=cs.length then some (.agg (cs.take 3))else none:=rfl
@[simp] theorem LD227(cs:List AV):ax T 227 (.ip cs)=if 3<=cs.length then some (.agg (cs.take 3))else none:=rfl
@[simp] theorem TN(s:ba):bu T 9 (.str s)=some (.int .i64 s.length):=rfl
@[simp] theorem Pn(es:List AV):bu T 22 (.sl es)=some (.int .i64 es.length):=rfl
@[simp] theorem Ub:bu T 22 .hn=some (.int .i64 0):=rfl
@[simp] theorem TS(l k n s:Nat)(a:Bool):bu T 22 (.hs l k n s a)=some (.int .i64 n):=rfl
@[simp] theorem Gr(l:List Mod):bu T 22 (mods l)=some (.int .i64 l.length):=(Pn _).trans Z8
@[simp] theorem Po(es:List AV):bu T 23 (.sl es)=some (.int .i64 es.length):=rfl
@[simp] theorem Uc:bu T 23 .hn=some (.int .i64 0):=rfl
@[simp] theorem TU(l k n s:Nat)(a:Bool):bu T 23 (.hs l k n s a)=some (.int .i64 n):=rfl
@[simp] theorem TO(l:List Vars):bu T 23 (bn l)=some (.int .i64 l.length):=(Po _).trans Z8
@[simp] theorem Wn(es:List AV):bu T 24 (.sl es)=some (.int .i64 es.length):=rfl
@[simp] theorem Ud:bu T 24 .hn=some (.int .i64 0):=rfl
@[simp] theorem TV(l k n s:Nat)(a:Bool):bu T 24 (.hs l k n s a)=some (.int .i64 n):=rfl
@[simp] theorem Pp(es:List AV):bu T 25 (.sl es)=some (.int .i64 es.length):=rfl
@[simp] theorem Ue:bu T 25 .hn=some (.int .i64 0):=rfl
@[simp] theorem TW(l k n s:Nat)(a:Bool):bu T 25 (.hs l k n s a)=some (.int .i64 n):=rfl
@[simp] theorem nh(l:List Int):bu T 25 (ints l)=some (.int .i64 l.length):=(Pp _).trans Z8
@[simp] theorem Pq(es:List AV):bu T 27 (.sl es)=some (.int .i64 es.length):=rfl
@[simp] theorem Uf:bu T 27 .hn=some (.int .i64 0):=rfl
@[simp] theorem TX(l k n s:Nat)(a:Bool):bu T 27 (.hs l k n s a)=some (.int .i64 n):=rfl
@[simp] theorem g9(l:List ba):bu T 27 (strs l)=some (.int .i64 l.length):=(Pq _).trans Z8
@[simp] theorem Pr(es:List AV):bu T 28 (.sl es)=some (.int .i64 es.length):=rfl
@[simp] theorem Ug:bu T 28 .hn=some (.int .i64 0):=rfl
@[simp] theorem TY(l k n s:Nat)(a:Bool):bu T 28 (.hs l k n s a)=some (.int .i64 n):=rfl
@[simp] theorem qE(l:List Val):bu T 28 (vals l)=some (.int .i64 l.length):=(Pr _).trans (by simp[dX])
@[simp] theorem Ps(es:List AV):bu T 31 (.sl es)=some (.int .i64 es.length):=rfl
@[simp] theorem Uh:bu T 31 .hn=some (.int .i64 0):=rfl
@[simp] theorem TZ(l k n s:Nat)(a:Bool):bu T 31 (.hs l k n s a)=some (.int .i64 n):=rfl
@[simp] theorem TP(l:List Deed):bu T 31 (deeds l)=some (.int .i64 l.length):=(Ps _).trans Z8
@[simp] theorem Pt(es:List AV):bu T 32 (.sl es)=some (.int .i64 es.length):=rfl
@[simp] theorem Ui:bu T 32 .hn=some (.int .i64 0):=rfl
@[simp] theorem T0(l k n s:Nat)(a:Bool):bu T 32 (.hs l k n s a)=some (.int .i64 n):=rfl
@[simp] theorem TR(l:List Ap.Call):bu T 32 (Ap.calls l)=some (.int .i64 l.length):=(Pt _).trans Z8
@[simp] theorem Pu(es:List AV):bu T 47 (.sl es)=some (.int .i64 es.length):=rfl
@[simp] theorem Uj:bu T 47 .hn=some (.int .i64 0):=rfl
@[simp] theorem T4(l k n s:Nat)(a:Bool):bu T 47 (.hs l k n s a)=some (.int .i64 n):=rfl
@[simp] theorem mh(l:List fu):bu T 47 (ca l)=some (.int .i64 l.length):=(Pu _).trans (by simp[kJ])
@[simp] theorem Pv(es:List AV):bu T 48 (.sl es)=some (.int .i64 es.length):=rfl
@[simp] theorem Uk:bu T 48 .hn=some (.int .i64 0):=rfl
@[simp] theorem T7(l k n s:Nat)(a:Bool):bu T 48 (.hs l k n s a)=some (.int .i64 n):=rfl
@[simp] theorem oV(l:List Exp):bu T 48 (dn l)=some (.int .i64 l.length):=(Pv _).trans (by simp[kH])
@[simp] theorem Pw(es:List AV):bu T 49 (.sl es)=some (.int .i64 es.length):=rfl
@[simp] theorem Ul:bu T 49 .hn=some (.int .i64 0):=rfl
@[simp] theorem T8(l k n s:Nat)(a:Bool):bu T 49 (.hs l k n s a)=some (.int .i64 n):=rfl
@[simp] theorem BF(l:List Fun):bu T 49 (iP l)=some (.int .i64 l.length):=(Pw _).trans Z8
@[simp] theorem Wo(es:List AV):bu T 76 (.sl es)=some (.int .i64 es.length):=rfl
@[simp] theorem Um:bu T 76 .hn=some (.int .i64 0):=rfl
@[simp] theorem T9(l k n s:Nat)(a:Bool):bu T 76 (.hs l k n s a)=some (.int .i64 n):=rfl
@[simp] theorem Wp(es:List AV):bu T 89 (.sl es)=some (.int .i64 es.length):=rfl
@[simp] theorem Un:bu T 89 .hn=some (.int .i64 0):=rfl
@[simp] theorem Ua(l k n s:Nat)(a:Bool):bu T 89 (.hs l k n s a)=some (.int .i64 n):=rfl
@[simp] theorem TL(es:List AV):bu T 154 (.sl es)=some (.int .i64 es.length):=rfl
@[simp] theorem Tm:bu T 154 .hn=some (.int .i64 0):=rfl
@[simp] theorem Tk(l k n s:Nat)(a:Bool):bu T 154 (.hs l k n s a)=some (.int .i64 n):=rfl
@[simp] theorem TM(es:List AV):bu T 228 (.sl es)=some (.int .i64 es.length):=rfl
@[simp] theorem Tn:bu T 228 .hn=some (.int .i64 0):=rfl
@[simp] theorem Tl(l k n s:Nat)(a:Bool):bu T 228 (.hs l k n s a)=some (.int .i64 n):=rfl
def EI{l:List Mod}{n:Int}(h0:0<=n)(h:n<(l.length:Int)):aA T 22 (mods l) (.int .i64 n)=some (.ip (aa (Mod.av l[n.toNat]!))):=bv (T:=T) (t:=22) (e:=53) rfl rfl rfl (fun _=>by first|rfl|(simp;done)|(simp;rfl)) h0 h
def Jj{l:List Int}{n:Int}(h0:0<=n)(h:n<(l.length:Int)):aA T 25 (ints l) (.int .i64 n)=some (.ip (aa (AV.int .i64 l[n.toNat]!))):=bv (T:=T) (t:=25) (e:=3) rfl rfl rfl (fun _=>by first|rfl|(simp;done)|(simp;rfl)) h0 h
def oU{l:List ba}{n:Int}(h0:0<=n)(h:n<(l.length:Int)):aA T 27 (strs l) (.int .i64 n)=some (.ip (aa (AV.str l[n.toNat]!))):=bv (T:=T) (t:=27) (e:=9) rfl rfl rfl (fun _=>by first|rfl|(simp;done)|(simp;rfl)) h0 h
def ta{l:List Val}{n:Int}(h0:0<=n)(h:n<(l.length:Int)):aA T 28 (vals l) (.int .i64 n)=some (.ip (aa (Val.av l[n.toNat]!))):=by rw[vals,dX];exact bv (T:=T) (t:=28) (e:=30) rfl rfl rfl (fun _=>by first|rfl|(simp;done)|(simp;rfl)) h0 h
def TJ{l:List Deed}{n:Int}(h0:0<=n)(h:n<(l.length:Int)):aA T 31 (deeds l) (.int .i64 n)=some (.ip (aa (Deed.av l[n.toNat]!))):=bv (T:=T) (t:=31) (e:=102) rfl rfl rfl (fun _=>by first|rfl|(simp;done)|(simp;rfl)) h0 h
def Pm{l:List Ap.Call}{n:Int}(h0:0<=n)(h:n<(l.length:Int)):aA T 32 (Ap.calls l) (.int .i64 n)=some (.ip (aa (Ap.Call.av l[n.toNat]!))):=bv (T:=T) (t:=32) (e:=65) rfl rfl rfl (fun _=>by first|rfl|(simp;done)|(simp;rfl)) h0 h
def vJ{l:List fu}{n:Int}(h0:0<=n)(h:n<(l.length:Int)):aA T 47 (ca l) (.int .i64 n)=some (.ip (aa (dZ l[n.toNat]!))):=by rw[ca,kJ];exact bv (T:=T) (t:=47) (e:=143) rfl rfl rfl (fun _=>by first|rfl|(simp;done)|(simp;rfl)) h0 h
theorem nf{l:List Exp}{n:Int}(h0:0<=n)(h:n<(l.length:Int)):aA T 48 (dn l) (.int .i64 n)=some (.ip (aa (Exp.av l[n.toNat]!))):=by rw[dn,kH];exact bv (T:=T) (t:=48) (e:=121) rfl rfl rfl (fun _=>by first|rfl|(simp;done)|(simp;rfl)) h0 h
theorem BE{l:List Fun}{n:Int}(h0:0<=n)(h:n<(l.length:Int)):aA T 49 (iP l) (.int .i64 n)=some (.ip (aa (Fun.av l[n.toNat]!))):=bv (T:=T) (t:=49) (e:=123) rfl rfl rfl (fun _=>by first|rfl|(simp;done)|(simp;rfl)) h0 h
def TC{a b:List Vars}(h:(a.length+b.length)*40<=140737488355328):dH T 23 (bn a) (bn b)=some (bn (a++b)):=by
 have:=lL (T:=T) (t:=23) (e:=58) rfl rfl rfl (f:=Vars.av) (fun _=>by first|rfl|(simp;done)|(simp;rfl)) (a:=a) (b:=b) h Z6
 simpa [bn]using this
def Pk{a b:List Int}(h:(a.length+b.length)*8<=140737488355328):dH T 25 (ints a) (ints b)=some (ints (a++b)):=by
 have:=lL (T:=T) (t:=25) (e:=3) rfl rfl rfl (f:=AV.int .i64) (fun _=>by first|rfl|(simp;done)|(simp;rfl)) (a:=a) (b:=b) h Z6
 simpa [ints]using this
def Ji{a b:List ba}(h:(a.length+b.length)*16<=140737488355328):dH T 27 (strs a) (strs b)=some (strs (a++b)):=by
 have:=lL (T:=T) (t:=27) (e:=9) rfl rfl rfl (f:=AV.str) (fun _=>by first|rfl|(simp;done)|(simp;rfl)) (a:=a) (b:=b) h Z6
 simpa [strs]using this
def EH{a b:List Val}(h:(a.length+b.length)*64<=140737488355328):dH T 28 (vals a) (vals b)=some (vals (a++b)):=by
 have:=lL (T:=T) (t:=28) (e:=30) rfl rfl rfl (f:=Val.av) (fun _=>by first|rfl|(simp;done)|(simp;rfl)) (a:=a) (b:=b) h Z6
 simpa [vals,dX]using this
@[simp] theorem Q1(t:Nat)(a b:Int):cB T .geq t (.int .u8 a) (.int .u8 b)=some (.bool (decide (b<=a))):=rfl
@[simp] theorem Q4(t:Nat)(a b:Int):cB T .leq t (.int .u8 a) (.int .u8 b)=some (.bool (decide (a<=b))):=rfl
@[simp] theorem TA(t:Nat)(a b:ba):cB T .leq t (.str a) (.str b)=some (.bool (ck a b||a== b)):=rfl
def Ke(f:AV)(F:fu->Bool)(l:List fu)(hb:l.length<=4611686018427387904)(hf:∀x∈l,cV (af pg) f [dZ x]=ao (.bool (F x))):∀(n:Nat)(i:Int),l.length-i.toNat=n->0<=i->i<=l.length->
  ak (L184_0 (af pg) ak) [ca l,f,.int .i64 l.length,.int .i64 i]=ao (.int .i64 (bb F (l.drop i.toNat) i)):=by
 intro n
 induction n with
 |zero=>
  intro i hn hi hl;rw[FL184_0];simp only[L184_0];have h1:¬(i<(l.length:Int)):=Z5
  have h2:l.drop i.toNat=[]:=List.drop_eq_nil_of_le Z5;simp[h1,h2,bb]
 |succ n ih=>
  intro i hn hi hl;have h1:i<(l.length:Int):=Z5
  have hlt:i.toNat<l.length:=Z5
  have h2:bb F (l.drop i.toNat) i=if F l[i.toNat]=true then i else bb F (l.drop (i.toNat+1)) (i+1):=by rw[List.drop_eq_getElem_cons hlt];rfl
  have h3:=hf l[i.toNat] (XU hlt);have h4:=ih (i+1) Z5 Z5 Z5;rw[show (i+1).toNat=i.toNat+1 by omega]at h4;rw[FL184_0];simp only[L184_0];simp (disch:=omega) [h1,aW,vJ,h3,h2];simp_all
def t184(f:AV)(F:fu->Bool)(l:List fu)(hb:l.length<=4611686018427387904)(hc:∀g,cl g f=f)(hf:∀x∈l,cV (af pg) f [dZ x]=ao (.bool (F x))):af pg 184 [ca l,f]=ao (.int .i64 (bb F l 0)):=by
 rw[C184];simp[S184,hc,Ke f F l hb hf l.length 0 rfl Z5 Z5]
def t105(b:UInt8):af pg 105 [.int .u8 b.toNat]=ao (.bool (sV b)):=by
 rw[C105];have e:decide ((b.toNat:Int)<=122)=decide (b.toNat<=122):=YF.2 Z5;have e2:decide (97<=(b.toNat:Int))=decide (97<=b.toNat):=YF.2 Z5;simp[S105,sV,e,e2]
def t107(b:UInt8):af pg 107 [.int .u8 b.toNat]=ao (.bool (Cd b)):=by
 rw[C107];have e:decide ((b.toNat:Int)<=57)=decide (b.toNat<=57):=YF.2 Z5;have e2:decide (48<=(b.toNat:Int))=decide (48<=b.toNat):=YF.2 Z5;simp[S107,Cd,e,e2]
def t151(b:UInt8):af pg 151 [.int .u8 b.toNat]=ao (.bool (tp b)):=by
 simp_all[C151,S151,t105,t107,tp]
theorem Lk{s:ba}{i:Nat}(h:i<s.length):i9 T 9 (.str s) (.int .i64 (i:Int))=some (.int .u8 (s[i].toNat:Int)):=by
 have e1:i9 T 9 (.str s) (.int .i64 (i:Int))=(if(i:Int)<0 then none else s[(i:Int).toNat]?.map fun b=>.int .u8 b.toNat):=rfl
 grind
def Oh(F:UInt8->Bool)(f:AV)(s:ba)(hb:s.length<=4611686018427387904)(hf:∀b:UInt8,cV (af pg) f [.int .u8 b.toNat]=ao (.bool (F b))):∀(n i:Nat),s.length-i=n->i<=s.length->
  ak (L49_0 (af pg) ak) [.str s,f,.int .i64 i]=ao (.int .i64 ((i+((s.drop i).takeWhile F).length:Nat):Int)):=by
 intro n
 induction n with
 |zero=>
  intro i hn hi;rw[FL49_0];simp only[L49_0];have h1:¬((i:Int)<(s.length:Int)):=Z5
  have h2:s.drop i=[]:=List.drop_eq_nil_of_le Z5;simp[h1,h2]
 | succ n ih=>
  intro i hn hi;have hlt:i<s.length:=Z5
  have h1:(i:Int)<(s.length:Int):=Z5
  have h2:s.drop i=s[i]:: s.drop (i+1):=List.drop_eq_getElem_cons hlt;have h4:=ih (i+1) Z5 Z5;have hw:IntKind.i64.wrap ((i:Int)+1)=((i+1:Nat):Int):=aR Z5;rw[FL49_0];simp only[L49_0,am,au,TN,ae,aB,h1,X8,aS,Lk hlt,hf,aj,bC,ai,bm,hw,h4,h2,List.takeWhile_cons];cases F s[i]
  ·simp
  ·rw[XK rfl,XK rfl];congr 3
   grind
def t108(s:ba):af pg 108 [.str s]=ao (.bool (sH s)):=by
 rw[C108];by_cases hs:s=[]
 ·subst hs;simp[S108,sH]
 ·have hs':(s== [])=false:=Zc.2 hs;have hpos:0<s.length:=YE.2 hs;have h0:=Lk (s:=s) (i:=0) hpos;have hd:s[0]=s.headD 0:=by cases s with|nil=>grind|cons c s=>rfl
  rw[hd]at h0;simp at h0;by_cases hl:s.length<=20
  ·have h1:=Oh tp (.fn (.func 151) [] []) s Z5 (fun b=>t151 b) s.length 0 Z8 Z8;have hsp:af pg 49 [.str s,.fn (.func 151) [] []]=ao (.int .i64 (((s.takeWhile tp).length:Nat):Int)):=by
    rw[C49];simp only[S49,cl,fk];rw[show (AV.int .i64 0)=AV.int .i64 ((0:Nat):Int)from rfl,h1];simp
   have e1:decide (20<(s.length:Int))=false:=by rw[Yc];omega
   have e3:decide (20<s.length)=false:=by rw[Yc];omega
   have e4:decide (s.length<=20)=true:=by simpa using hl
   simp[S108,hs',h0,t105,hsp,e1,e3,e4,sH]
  ·have e1:decide (20<(s.length:Int))=true:=by rw[XI];omega
   have e3:decide (20<s.length)=true:=by rw[XI];omega
   have e4:decide (s.length<=20)=false:=by simpa using hl
   simp[S108,hs',h0,t105,e1,e3,e4,sH]
def t157(s:ba):af pg 157 [.str om,.str s]=ao (.bool (Lib.contains om s)):=by
 rw[d7 hJ (E:=lN) rfl];rfl
theorem ED(t:Nat)(a b:ba):cB T .add t (.str a) (.str b)=if a.length+b.length<=4611686018427387904 then some (.str (a++b))else none:=rfl
def t119(s:ba):af pg 119 [.str s]=ao (.bool (cw s)):=by
 rw[C119];have h1:=t108 s;unfold cw;cases hw:sH s with
 |false=>
  rw[hw]at h1;simp[S119,h1]
 |true=>
  have hl:=Gi hw;rw[hw]at h1;have h2:=t157 ([32]++s++[32]);unfold om at h2;have e1:cB T .add 9 (.str [32]) (.str s)=some (.str ([32]++s)):=by rw[ED,XK WD]
  have e2:cB T .add 9 (.str ([32]++s)) (.str [32])=some (.str ([32]++s++[32])):=by rw[ED,XK WD]
  simp only[S119,Nu,h1,aj,aS,e1,ae,e2,h2,aT,am,bC,ec,YN];rfl
def J7{t:Ty}(h:t.Lim)(k:Nat)(hk:k<t.fields.length):(t.fields[k]!).2.Lim:=by
 rw[XN t.fields k hk];exact h.kid (XU hk)
theorem t158:∀(d:Nat),d<=4->∀(t:Ty),t.Lim->af pg 158 [t.av,.int .i64 d]=ao (.bool (gQ d t))
 |0,_,t,_=>by
  rw[C158];simp[S158,gQ]
 | d + 1,hd,t,ht=>by
  have ih:=t158 d Z5;have hlen:=ht.len;have hd1:IntKind.i64.wrap ((((d+1:Nat)):Int)-1)=(d:Int):=xL Z5;have hloop:=pS (F:=L158_0 (af pg) ak) (FL158_0 (af pg)) (fun k=>[.int .i64 ((d+1:Nat):Int),.ip (aa t.av),ca t.fields,.int .i64 t.fields.length,.int .i64 k]) t.fields.length
   (fun k=>(cw (t.fields[k]!).1&&gQ d (t.fields[k]!).2)&&(decide (k=0)||eG (t.fields[k-1]!).1 (t.fields[k]!).1))
   (by simp[L158_0]) (fun k hk=>by
    have h1:(k:Int)<(t.fields.length:Int):=Z5
    have hix:=vJ (l:=t.fields) (n:=(k:Int)) Z5 h1;rw[XP]at hix;have hm:t.fields[k]! ∈t.fields:=by rw[XN t.fields k hk];exact XU hk
    have h2:=t119 (t.fields[k]!).1;have h3:=ih (t.fields[k]!).2 (J7 ht k hk);have hw:IntKind.i64.wrap ((k:Int)+1)=(k:Int)+1:=by rw[aR Z5];simp
    have hd0:IntKind.i64.wrap (d:Int)=(d:Int):=I7 Z5;generalize t.fields[k]! = f at hix h2 h3 hm |-;rcases Yw k with hk0|hk0
    ·subst hk0;have hix0:aA T 47 (ca t.fields) (.int .i64 0)=some (.ip (aa (dZ f))):=hix;have hw0:IntKind.i64.wrap 1=1:=rfl;simp[L158_0,hix0,h2,h3,hw0,hd0,hk];cases cw f.1<;>cases gQ d f.2<;>simp
    ·have hp:IntKind.i64.wrap ((k:Int)-1)=((k-1:Nat):Int):=by
      rw[aW Z5 Z5];omega
     have h4:((k-1:Nat):Int)<(t.fields.length:Int):=Z5
     have hix2:=vJ (l:=t.fields) (n:=((k-1:Nat):Int)) Z5 h4;rw[XP]at hix2;generalize t.fields[k-1]! = g at hix2 |-;have hk1:¬k=0:=Z5
     simp[L158_0,h1,hix,h2,h3,hw,hd0,hp,hix2,hk0,hk1,hk];cases cw f.1<;>simp
     grind [eG]) 0 (X2 _)
  have hall:((List.range' 0 t.fields.length).all fun k=>(cw (t.fields[k]!).1&&gQ d (t.fields[k]!).2)&&(decide (k=0)||eG (t.fields[k-1]!).1 (t.fields[k]!).1))=(t.fields.all (fun f=>cw f.1&&gQ d f.2)&&oX (fun a b=>eG a.1 b.1) t.fields):=
   xV (fun f:fu=>cw f.1&&gQ d f.2) (fun a b=>eG a.1 b.1) t.fields
  rw[Zl,hall]at hloop;rw[C158];have h0:¬((d:Int)+1=0):=Z5
  have hl2:ak (L158_0 (af pg) ak) [.int .i64 ((d:Int)+1),.ip [.int .i64 t.kind,ca t.fields],ca t.fields,.int .i64 t.fields.length,.int .i64 0]=ao (.bool (t.fields.all (fun f=>cw f.1&&gQ d f.2)&&oX (fun a b=>eG a.1 b.1) t.fields)):=by
   simpa using hloop
  have hR:gQ (d+1) t=if((t.kind<0\/3<=t.kind)\/8<(t.fields.length:Int))\/¬t.kind=2/\0<t.fields.length then false else(t.fields.all (fun f=>cw f.1&&gQ d f.2)&&oX (fun a b=>eG a.1 b.1) t.fields):=by
   rw[A7];generalize (t.fields.all (fun f=>cw f.1&&gQ d f.2)&&oX (fun a b=>eG a.1 b.1) t.fields)=q;generalize t.fields.length=n;generalize t.kind=k;split
   ·grind
   ·grind
  rw[hR];simp[S158,h0,hl2]
def t121(t:Ty)(ht:t.Lim):af pg 121 [t.av]=ao (.bool (jS t)):=by
 rw[C121];have:af pg 158 [t.av,.int .i64 4]=ao (.bool (gQ 4 t)):=t158 4 Z5 t ht;simp[S121,this]
@[simp] theorem Nk(t:Nat)(a b:Int):cB T .andNot t (.int .i64 a) (.int .i64 b)=some (.int .i64 (mE a b)):=rfl
def aU{α β:Type}{m:M α}{a:α}{h h':Hp}(e:m h= .ok a h')(f:α->M β):ar m f h=f a h':=by simp only[ar,e]
def lY{h:Hp}{l:Nat}{cs:List AV}(H:h[l]? = some cs):l<h.length:=by
 grind
theorem JX(i:Ins):(aa i.av).length=5:=rfl
def CX(h:Hp)(l:Nat)(c:List Ins)(x:AV):Prop:=(c=[]/\x= .hn)\/(c≠[]/\∃lb,l<lb/\x= .hs lb 0 c.length 5 true/\h[lb]? = some (rowOf Ins.av c))
def CS(h:Hp)(l:Nat)(vars:List fu)(c:jW):Prop:=∃x,h[l]? = some [ca vars,x,.int .i64 c.2]/\CX h l c.1 x
def sK(l:Nat)(h h':Hp):Prop:=∀i,i<l->h'[i]? = h[i]?
def sK.refl(l:Nat)(h:Hp):sK l h h:=fun _ _=>rfl
def sK.trans{l:Nat}{h h1 h2:Hp}(a:sK l h h1)(b:sK l h1 h2):sK l h h2:=fun i hi=>(b i hi).trans (a i hi)
def sK.set{l k:Nat}{h:Hp}{r:List AV}(hk:l<=k):sK l h (h.set k r):=fun i hi=>Z7
def sK.app{l:Nat}{h t:Hp}(hl:l<=h.length):sK l h (h++t):=fun i hi=>Z7
theorem HU(l:Nat):ko (.hp l 0)=some (.hp l 0):=rfl
theorem fC0(l:Nat):ah T 202 (.hp l 0) 0=some (.hp l 0):=rfl
theorem fC1(l:Nat):ah T 202 (.hp l 0) 1=some (.hp l 1):=rfl
theorem fC2(l:Nat):ah T 202 (.hp l 0) 2=some (.hp l 2):=rfl
def CX.len{h:Hp}{l:Nat}{c:List Ins}{x:AV}(H:CX h l c x):bu T 89 x=some (.int .i64 c.length):=by
 rcases H with⟨rfl,rfl⟩|⟨_,lb,_,rfl,_⟩<;>rfl
def mL{h:Hp}{l:Nat}{a x n:AV}(H:h[l]? = some [a,x,n]):bg T 89 (.hp l 1) h= .ok x h:=yw (T:=T) (t:=89) rfl rfl H rfl
def J4{h:Hp}{l:Nat}{a x n:AV}(H:h[l]? = some [a,x,n]):bg T 47 (.hp l 0) h= .ok a h:=yw (T:=T) (t:=47) rfl rfl H rfl
def HJ{h:Hp}{l:Nat}{a x n:AV}(H:h[l]? = some [a,x,n]):bg T 3 (.hp l 2) h= .ok n h:=yw (T:=T) (t:=3) rfl rfl H rfl
theorem t125{h:Hp}{l:Nat}{vars:List fu}{c:jW}(H:CS h l vars c)(i:Ins)(hb:c.1.length<=100000000000):
  ∃h',af pg 125 [.hp l 0,i.av] h= .ok (.int .i64 c.1.length) h'/\CS h' l vars (gJ i c)/\sK l h h':=by
 obtain⟨x,hl,hx⟩:=H;have hlt:=lY hl;have hap:∃h1,appH T 89 false x (.sl [i.av]) h= .ok (.hs h.length 0 (c.1.length+1) 5 true) h1/\h1[h.length]? = some (rowOf Ins.av (c.1++[i]))/\h1[l]? = h[l]? /\sK l h h1/\h.length<h1.length:=by
  have hr:rowOf Ins.av (c.1++[i])=rowOf Ins.av c.1++aa i.av:=by simp[rowOf]
  rcases hx with⟨h1,rfl⟩|⟨h1,lb,hlb,rfl,hq⟩
  ·refine⟨h++[aa i.av],?_,?_,?_,sK.app Z5,Z8⟩
   ·rw[h1];exact QY (T:=T) (t:=89) (e:=113) rfl rfl rfl (x:=i.av) rfl Z6 Z6 Z6 h
   all_goals grind [rowOf]
  ·have hln:=oo (f:=Ins.av) JX c.1;have hok:(rowOf Ins.av c.1).all ay=true:=by
    rw[XY];intro y hy;simp only[rowOf,List.mem_flatMap,Y5]at hy;obtain⟨_,⟨j,_,rfl⟩,hy⟩:=hy;have:y∈j.cells:=hy;simp only[Ins.cells,Yn,List.not_mem_nil,or_false]at this;rcases this with rfl|rfl|rfl|rfl|rfl<;>rfl
   refine⟨(h.set lb [])++[rowOf Ins.av c.1++aa i.av],?_,?_,?_,?_,Z8⟩
   ·exact QZ (T:=T) (t:=89) (e:=113) rfl rfl rfl (x:=i.av) rfl Z6 Z6 hq hok hln (YE.2 h1) Z7
   ·grind
   ·grind
   ·exact (sK.set Z5).trans (sK.app WD)
 obtain⟨h1,e1,r1,r2,lo,hlen⟩:=hap;rw[hl]at r2;have st:bN T 89 (.hp l 1) (.hs h.length 0 (c.1.length+1) 5 true) h1= .ok (.tup []) (h1.set l [ca vars,.hs h.length 0 (c.1.length+1) 5 true,.int .i64 c.2]):=
  s7 (T:=T) (t:=89) rfl (v:=.hs h.length 0 (c.1.length+1) 5 true) r2 rfl (show 1+1<=3 by omega) Z6
 have hl2:(h1.set l [ca vars,.hs h.length 0 (c.1.length+1) 5 true,.int .i64 c.2])[l]? = some [ca vars,.hs h.length 0 (c.1.length+1) 5 true,.int .i64 c.2]:=by
  rw[YP,XK rfl,XK Z5]
 refine⟨_,?_,⟨_,hl2,.inr ⟨by simp[gJ],h.length,Z5,by simp[gJ],?_⟩⟩,lo.trans (sK.set (XM _))⟩
 ·have ld0:ax T 113 (.ip (aa i.av))=some i.av:=rfl;have bs:aM T 89 1 [(0,i.av)]=some (.sl [i.av]):=rfl;have ln:bu T 89 (.hs h.length 0 (c.1.length+1) 5 true)=some (.int .i64 ((c.1.length+1:Nat):Int)):=rfl;have hw:IntKind.i64.wrap (((c.1.length+1:Nat):Int)-1)=c.1.length:=by rw[aW Z5 Z5];omega
  rw[C125];simp only[S125,HU,ae,fC1];rw[aU (mL hl)];simp only[ld0,bs,ae];rw[aU e1,aU st,aU (mL hl2)];simp only[ln,ae,fI,hw];rfl
 ·rw[YP,XG Z5];exact r1
theorem Ed(names:List ba)(s:ba)(hb:names.length<=1000000):∀n:Nat,n<=names.length->
  ak (L161_0 (af pg) ak) [strs names,.str s,.int .i64 ((n:Int)-1)]=ao (.int .i64 (uw names s n))
 |0,_=>by
  rw[FL161_0];simp[L161_0,uw]
 |n+1,h=>by
  have ih:=Ed names s hb n Z5;have hix:=oU (l:=names) (n:=(n:Int)) Z5 Z5;have e:(((n+1:Nat):Int)-1)=n:=Z5
  have hw:IntKind.i64.wrap ((n:Int)-1)=n-1:=aW Z5 Z5;have hg:names[n]? = some names[n]!:=by rw[XN names n Z5];exact XW Z5
  rw[FL161_0,e];simp only[XP]at hix;have hd:decide ((0:Int)<=(n:Int))=true:=Yd Z5;simp only[L161_0,am,au,jm,ae,ai,hd,XS,hix];simp only[uw,hg,XF];by_cases hn:names[n]! = s
  ·simp[hn]
  ·simp[hn,hw,ih]
def t161(names:List ba)(s:ba)(hb:names.length<=1000000):af pg 161 [strs names,.str s]=ao (.int .i64 (D9 names s)):=by
 have h:=Ed names s hb names.length (XM _);have hw:IntKind.i64.wrap ((names.length:Int)-1)=names.length-1:=aW Z5 Z5;rw[C161];simp[S161,hw,h,D9]
def t185(x:fu)(s:ba):af pg 185 [dZ x,.ip (aa (.str s))]=ao (.bool (x.1== s)):=by
 rw[C185];simp[S185,cl,fk]
def t162{h:Hp}{l:Nat}{vars:List fu}{c:jW}(H:CS h l vars c)(s:ba)(hb:vars.length<=1000000):af pg 162 [.hp l 0,.str s] h= .ok (.int .i64 (KU vars s)) h:=by
 obtain⟨x,hl,hx⟩:=H;have hi:=t184 (.fn (.func 185) [] [.ip (aa (.str s))]) (fun f=>f.1== s) vars Z5 (fun g=>by simp[cl,fk]) (fun x _=>t185 x s);rw[C162];simp only[S162,HU,ae,fC0];rw[aU (J4 hl),hi];rfl
def t97(l:List ba)(h:l.length<=8796093022208):af pg 97 [strs l]=ao (strs l):=by
 have e:af pg 97 [strs l]=ew T 27 (af pg) [strs l]:=d7 hJ rfl _;rw[e];show bS (dH T 27 (.sl []) (strs l))=_
 have:=Ji (a:=[]) (b:=l) WD
 simp only[Ye]at this;show bS (dH T 27 (strs []) (strs l))=_;rw[this];rfl
theorem t160(n:Int):af pg 160 [.int .i64 n]=ao (lJ n).av:=by
 have hb:cH T false 121 [(0,.int .i64 1),(1,.int .i64 n)]=some (lJ n).av:=rfl;rw[C160];simp[S160,hb]
def wd{A R c:List AV}{off:Nat}(h:off+c.length<=A.length):setCells (A++R) off c=setCells A off c++R:=by
 grind [setCells]
def vf{A R c:List AV}{o:Nat}:setCells (A++R) (A.length+o) c=A++setCells R o c:=by
 simp_all[setCells,List.take_length_add_append,Nat.add_assoc]
theorem qq{α:Type}{f:α->AV}{sz:Nat}(hs:∀x,(aa (f x)).length=sz){y:α}{off:Nat}{c:List AV}(hoff:off+c.length<=sz):∀(l:List α)(k:Nat)(hk:k<l.length),setCells (aa (f l[k])) off c=aa (f y)->setCells (rowOf f l) (k*sz+off) c=rowOf f (l.set k y)
 |x:: l,0,_,h=>by
  simp_all[jf,wd]
 |x:: l,k+1,hk,h=>by
  have e:(k+1)*sz+off=(aa (f x)).length+(k*sz+off):=by rw[hs,Nat.succ_mul];omega
  rw[jf,e,vf,qq hs hoff l k (by simpa using hk) (by simpa using h),List.set_cons_succ,jf]
section
variable (e:Exp)
theorem fE0:ah T 121 (.ip (aa e.av)) 0=some (.ip ((aa e.av).drop 0)):=rfl
theorem fE1:ah T 121 (.ip (aa e.av)) 1=some (.ip ((aa e.av).drop 1)):=rfl
theorem fE2:ah T 121 (.ip (aa e.av)) 2=some (.ip ((aa e.av).drop 2)):=rfl
theorem fE3:ah T 121 (.ip (aa e.av)) 3=some (.ip ((aa e.av).drop 3)):=rfl
theorem fE4:ah T 121 (.ip (aa e.av)) 4=some (.ip ((aa e.av).drop 4)):=rfl
theorem fE5:ah T 121 (.ip (aa e.av)) 5=some (.ip ((aa e.av).drop 5)):=rfl
theorem WE:ax T 3 (.ip ((aa e.av).drop 0))=some (.int .i64 e.op):=Z9
theorem VN:ax T 3 (.ip ((aa e.av).drop 1))=some (.int .i64 e.n):=Z9
theorem O0:ax T 9 (.ip ((aa e.av).drop 2))=some (.str e.s):=Z9
theorem W7:ax T 9 (.ip ((aa e.av).drop 3))=some (.str e.m):=Z9
theorem W8:ax T 27 (.ip ((aa e.av).drop 4))=some (strs e.names):=Z9
theorem N4:ax T 48 (.ip ((aa e.av).drop 5))=some (dn e.args):=Z9
theorem HD:ax T 121 (.ip (aa e.av))=some e.av:=by
 simp_all
end
theorem kV(t:Nat)(a b:Int):cB T .eql t (.int .i64 a) (.int .i64 b)=some (.bool (decide (a=b))):=rfl
theorem K8(a:Int):cH T false 113 [(0,.int .i64 a)]=some (cD a 0).av:=rfl
theorem Nh(a n:Int):cH T false 113 [(0,.int .i64 a),(1,.int .i64 n)]=some (cD a n).av:=rfl
theorem WW(a:Int)(l:List ba):cH T false 113 [(0,.int .i64 a),(4,strs l)]=some (Ins.mk a 0 [] [] l).av:=rfl
theorem WX(a:Int)(s:ba):cH T false 113 [(0,.int .i64 a),(2,.str s)]=some (Ins.mk a 0 s [] []).av:=rfl
theorem WY(a n:Int)(s m:ba):cH T false 113 [(0,.int .i64 a),(2,.str s),(3,.str m),(1,.int .i64 n)]=some (Ins.mk a n s m []).av:=rfl
theorem GP{β:Type}(i:Ins)(f:AV->M β):ar (bH 5 [] i.av) f=f i.av:=rfl
def Sp(l:List Exp):bu T 48 (dn l)=some (.int .i64 l.length):=oV l
def t165{h:Hp}{l:Nat}{vars:List fu}{c:jW}(H:CS h l vars c)(hb:vars.length<=1000000)(e:Exp)(hn:e.op=13->e.names.length<=1000000):af pg 165 [.hp l 0,e.av] h= .ok (rn vars e).av h:=by
 rw[C165];simp only[S165,fE0,WE,ae,kV,ai,XI];unfold rn;by_cases h3:e.op=3
 ·simp only[XK h3,K8,ae,GP];rfl
 simp only[XG h3];by_cases h4:e.op=4
 ·simp only[XK h4,K8,ae,GP];rfl
 simp only[XG h4];by_cases h5:e.op=5
 ·simp only[XK h5,K8,ae,GP];rfl
 simp only[XG h5];by_cases h6:e.op=6
 ·simp only[XK h6,K8,ae,GP];rfl
 simp only[XG h6];by_cases h7:e.op=7
 ·simp only[XK h7,K8,ae,GP];rfl
 simp only[XG h7];by_cases h10:e.op=10
 ·simp only[XK h10,K8,ae,GP];rfl
 simp only[XG h10];by_cases h13:e.op=13
 ·simp only[XK h13,fE4,W8,ae,t97 e.names Z7,aj,WW,GP];rfl
 simp only[XG h13];by_cases h14:e.op=14
 ·simp only[XK h14,fE2,O0,ae,WX,GP];rfl
 simp only[XG h14];by_cases h15:e.op=15
 ·simp only[XK h15,fE2,O0,fE3,W7,fE5,N4,Sp,ae,WY,GP];rfl
 simp only[XG h15];by_cases h16:e.op=16
 ·simp only[XK h16,fE1,VN,ae,Nh,GP];rfl
 simp only[XG h16,fE2,O0,ae];rw[aU (t162 H e.s hb)];simp only[Nh,ae,GP];rfl
def Pz(vars:List fu)(names:List ba)(em:jW->jW)(e:Exp)(L:Nat):Prop:=∀(c:jW)(h:Hp)(l:Nat),CS h l vars c->c.1.length+L<=100000000000->
 ∃h',af pg 124 [.hp l 0,e.av,strs names] h= .ok (.tup []) h'/\CS h' l vars (em c)/\sK l h h'
theorem WA{lb n k:Nat}(h:k<n):aA T 89 (.hs lb 0 n 5 true) (.int .i64 (k:Int))=some (.hp lb (0+k*5)):=by
 have e:aA T 89 (.hs lb 0 n 5 true) (.int .i64 (k:Int))=if 0<=(k:Int)/\(k:Int)<(n:Int)then some (.hp lb (0+(k:Int).toNat*5))else none:=rfl
 grind
theorem fI1(l k:Nat):ah T 113 (.hp l k) 1=some (.hp l (k+1)):=rfl
def Ia{h:Hp}{l:Nat}{vars:List fu}{c:jW}(H:CS h l vars c)(k:Nat)(n:Int)(hk:k<c.1.length):
  ∃lb h',h[l]? = some [ca vars,.hs lb 0 c.1.length 5 true,.int .i64 c.2]/\bN T 3 (.hp lb (0+k*5+1)) (.int .i64 n) h= .ok (.tup []) h'/\CS h' l vars (rB c.1 k n,c.2)/\sK l h h':=by
 obtain⟨x,hl,hx⟩:=H;rcases hx with⟨h1,rfl⟩|⟨h1,lb,hlb,rfl,hq⟩
 ·grind
 ·have hln:=oo (f:=Ins.av) JX c.1;have hr:setCells (rowOf Ins.av c.1) (k*5+1) [.int .i64 n]=rowOf Ins.av (rB c.1 k n):=by
   unfold rB;rw[XN c.1 k hk];exact qq JX Z8 c.1 k hk rfl
  have hlt:=lY hq;refine⟨lb,_,hl,s7 (T:=T) (t:=3) rfl (v:=.int .i64 n) hq rfl (show 0+k*5+1+1<=(rowOf Ins.av c.1).length by omega) Z6,⟨.hs lb 0 c.1.length 5 true,?_,.inr ⟨?_,lb,hlb,?_,?_⟩⟩,sK.set Z5⟩
  ·grind
  ·grind [nS]
  ·rw[nS]
  simp_all
def t163{vars:List fu}{names:List ba}{em:Exp->jW->jW}{yes no:Exp}{L1 L2:Nat}(h1:Pz vars names (em yes) yes L1)(h2:Pz vars names (em no) no L2)(a1:oT (em yes) L1)(a2:oT (em no) L2){c:jW}{h:Hp}{l:Nat}(H:CS h l vars c)(hb:c.1.length+(L1+L2+2)<=100000000000):∃h',af pg 163 [.hp l 0,yes.av,no.av,strs names] h= .ok (.tup []) h'/\CS h' l vars (iF em yes no c)/\sK l h h':=by
 obtain⟨k1,e1,H1,o1⟩:=t125 H (cD 11 0) Z5;have g1:=dt (cD 11 0) c;dsimp only[iF];generalize gJ (cD 11 0) c=c1 at *;obtain⟨k2,e2,H2,o2⟩:=h1 c1 k1 l H1 Z5;have g2:=a1 c1;generalize em yes c1=c2 at *;obtain⟨k3,e3,H3,o3⟩:=t125 H2 (cD 10 0) Z5;have g3:=dt (cD 10 0) c2;generalize gJ (cD 10 0) c2=c3 at *;obtain⟨lb,k4,r4,e4,H4,o4⟩:=Ia H3 c.1.length c3.1.length Z5;have g4:=nS c3.1 c.1.length c3.1.length;obtain⟨k5,e5,H5,o5⟩:=h2 (rB c3.1 c.1.length c3.1.length,c3.2) k4 l H4 Z7;have g5:=a2 (rB c3.1 c.1.length c3.1.length,c3.2);generalize em no (rB c3.1 c.1.length c3.1.length,c3.2)=c5 at *;simp only[g4]at g5;obtain⟨lb2,k6,r6,e6,H6,o6⟩:=Ia H5 c2.1.length c5.1.length Z5;refine⟨k6,?_,H6,(((((o1.trans o2).trans o3).trans o4).trans o5).trans o6)⟩;have ln:∀(b n:Nat),bu T 89 (.hs b 0 n 5 true)=some (.int .i64 n):=fun _ _=>rfl;rw[C163];simp -implicitDefEqProofs only[S163,K8,ae];rw[aU e1];simp -implicitDefEqProofs only[HD,ae];rw[aU e2,aU e3];simp -implicitDefEqProofs only[HU,fC1,ae];rw[aU (mL r4),aU (mL r4)];simp -implicitDefEqProofs only[ln,ae,WA (lb:=lb) (show c.1.length<c3.1.length by omega),fI1];rw[aU e4,aU e5,aU (mL r6),aU (mL r6)];simp -implicitDefEqProofs only[ln,ae,WA (lb:=lb2) (show c2.1.length<c5.1.length by omega),fI1];rw[aU e6];rfl
theorem Ee{vars:List fu}{names:List ba}{em:Exp->jW->jW}{L:Nat}{es:List Exp}(hes:es.length<=1000000){l:Nat}:∀(B A:List Exp)(c:jW)(h:Hp),A++B=es->(∀x∈B,Pz vars names (em x) x L)->(∀x∈B,oT (em x) L)->CS h l vars c->c.1.length+B.length*L<=100000000000->
  ∃h',ak (L164_0 (af pg) ak) [.hp l 0,strs names,dn es,.int .i64 es.length,.int .i64 A.length] h= .ok (.tup []) h'/\CS h' l vars (B.foldl (fun c x=>em x c) c)/\sK l h h'
 |[],A,c,h,e,_,_,H,_=>by
  subst e;refine⟨h,?_,H,sK.refl _ _⟩;have h1:¬((A.length:Int)<((A++[]).length:Int)):=Z8
  rw[FL164_0];simp only[L164_0,am,au,aB,ae,ai,XI,XG h1];rfl
 |x:: B,A,c,h,e,ho,ha,H,hb=>by
  have hlen:A.length+(B.length+1)=es.length:=by rw[<- e];simp
  have h1:(A.length:Int)<(es.length:Int):=Z5
  have hix:=nf (l:=es) (n:=(A.length:Int)) Z5 h1;have hx:es[A.length]! = x:=by rw[XN es A.length Z5];simp[<- e]
  rw[XP,hx]at hix;have hw:IntKind.i64.wrap ((A.length:Int)+1)=((A++[x]).length:Nat):=by rw[aW Z5 Z5];simp
  simp only[Yb,Nat.succ_mul]at hb;obtain⟨k1,e1,H1,o1⟩:=ho x Z8 c h l H Z5;have g1:=ha x Z8 c;obtain⟨k2,e2,H2,o2⟩:=Ee hes B (A++[x]) (em x c) k1 Z7 (fun y hy=>ho y (by simp[hy])) (fun y hy=>ha y (by simp[hy])) H1 Z5;refine⟨k2,?_,H2,o1.trans o2⟩;rw[FL164_0];simp only[L164_0,am,au,aB,ae,ai,XI,XK h1,hix,HD,B5,aj];rw[aU e1];simp_all
def t164{vars:List fu}{names:List ba}{em:Exp->jW->jW}{L:Nat}{es:List Exp}(hes:es.length<=1000000)(ho:∀x∈es,Pz vars names (em x) x L)(ha:∀x∈es,oT (em x) L){c:jW}{h:Hp}{l:Nat}(H:CS h l vars c)(hb:c.1.length+es.length*L<=100000000000):
  ∃h',af pg 164 [.hp l 0,dn es,strs names] h= .ok (.tup []) h'/\CS h' l vars (es.foldl (fun c x=>em x c) c)/\sK l h h':=by
 obtain⟨h',e1,H1,o1⟩:=Ee hes es [] c h rfl ho ha H hb;simp_all[C164,S164]
def Ce{f:FuncId}{args:List AV}{v:AV}(h:af pg f args=ao v):zN (af pg) f args=ao v:=by
 simp_all[zN]
def I0(n:Int):cV (zN (af pg)) (.fn (.func 160) [] []) [.int .i64 n]=ao (lJ n).av:=Ce (t160 n)
section
variable {e:Exp}
theorem JZ(h:0<e.args.length):aA T 48 (dn e.args) (.int .i64 0)=some (.ip (aa e.args[0]!.av)):=nf (l:=e.args) (n:=0) Z5 Z5
theorem J0(h:1<e.args.length):aA T 48 (dn e.args) (.int .i64 1)=some (.ip (aa e.args[1]!.av)):=nf (l:=e.args) (n:=1) Z5 Z5
theorem VJ(h:2<e.args.length):aA T 48 (dn e.args) (.int .i64 2)=some (.ip (aa e.args[2]!.av)):=nf (l:=e.args) (n:=2) Z5 Z5
end
theorem dK{n:Nat}(h:1<=n)(t:Int)(ht:t=0\/t=1):cS n (lJ t)=true:=by
 obtain⟨m,rfl⟩:∃m,n=m+1:=⟨n-1,Z5⟩;rw[fG];rcases ht with rfl|rfl<;>rfl
def Xh(a b:Int):jY true [.int .i64 a,.int .i64 b]=some (.int .i64 (max a b)):=by
 simp_all
theorem da{α:Type}(a:α):dy (ao a)=ao a:=rfl
theorem Ws(s:ba):aM T 27 1 [(0,.str s)]=some (strs [s]):=rfl
theorem t124{vars:List fu}(hv:vars.length<=1000000):∀(n:Nat)(e:Exp),cS n e=true->∀names:List ba,names.length+n<=1000000->Pz vars names (bK vars n e names) e (oD n)
 |0,e,h,_,_=>by simp[cS]at h
 | n+1,e,h,names,hn=>by
  have ih:=t124 hv n;have hs:im e=true:=by rw[fG,XJ]at h;exact h.1
  have hc:=jH hs;have h8:=Dw hs;intro c hp l H hb;simp only[oD]at hb;rw[C124];simp -implicitDefEqProofs only[S124,fE0,WE,ae,kV,ai,XI];unfold bK;by_cases o0:e.op=0
  ·obtain⟨h1,e1,H1,l1⟩:=t125 H (cD 0 e.n) Z5;refine⟨h1,?_,Z7,l1⟩;simp -implicitDefEqProofs only[XK o0,fE1,VN,Nh,ae];rw[aU e1];rfl
  simp -implicitDefEqProofs only[XG o0];by_cases o1:e.op=1
  ·obtain⟨h1,e1,H1,l1⟩:=t125 H (cD 1 e.n) Z5;refine⟨h1,?_,Z7,l1⟩;simp -implicitDefEqProofs only[XK o1,fE1,VN,Nh,ae];rw[aU e1];rfl
  simp -implicitDefEqProofs only[XG o1];by_cases o2:e.op=2
  ·obtain⟨h1,e1,H1,l1⟩:=t125 H (cD 2 (D9 names e.s)) Z5;refine⟨h1,?_,Z7,l1⟩;simp -implicitDefEqProofs only[XK o2,fE2,O0,ae,t161 names e.s Z5,aj,Nh];rw[aU e1];rfl
  simp -implicitDefEqProofs only[XG o2];by_cases o17:e.op=17
  ·obtain⟨h1,e1,H1,l1⟩:=t125 H (cD 16 (KU vars e.s)) Z5;refine⟨h1,?_,Z7,l1⟩;simp -implicitDefEqProofs only[XK o17,fE2,O0,ae];rw[aU (t162 H e.s hv)];simp -implicitDefEqProofs only[Nh,ae];rw[aU e1];rfl
  simp -implicitDefEqProofs only[XG o17];by_cases o8:e.op=8
  ·have hl:e.args.length=2:=Z5
   have r0:=dw h (k:=0) Z5;have r1:=dw h (k:=1) Z5;have hn1:1<=n:=by obtain⟨m,rfl⟩:=fe r0;omega
   have rt:=dK hn1 0 (.inl rfl);obtain⟨h1,e1,H1,l1⟩:=ih _ r0 names Z5 c hp l H Z5;have g1:=cJ vars _ _ r0 names c;obtain⟨h2,e2,H2,l2⟩:=t163 (em:=fun x=>bK vars n x names) (ih _ r1 names Z5) (ih _ rt names Z5) (cJ vars _ _ r1 names) (cJ vars _ _ rt names) H1 Z5;refine⟨h2,?_,Z7,l1.trans l2⟩;simp -implicitDefEqProofs only[XK o8,fE5,N4,ae,JZ (e:=e) Z5,HD];rw[aU e1];simp -implicitDefEqProofs only[ae,J0 (e:=e) Z5,HD,I0,aj];rw[aU e2];rfl
  simp -implicitDefEqProofs only[XG o8];by_cases o9:e.op=9
  ·have hl:e.args.length=2:=Z5
   have r0:=dw h (k:=0) Z5;have r1:=dw h (k:=1) Z5;have hn1:1<=n:=by obtain⟨m,rfl⟩:=fe r0;omega
   have rt:=dK hn1 1 (.inr rfl);obtain⟨h1,e1,H1,l1⟩:=ih _ r0 names Z5 c hp l H Z5;have g1:=cJ vars _ _ r0 names c;obtain⟨h2,e2,H2,l2⟩:=t163 (em:=fun x=>bK vars n x names) (ih _ rt names Z5) (ih _ r1 names Z5) (cJ vars _ _ rt names) (cJ vars _ _ r1 names) H1 Z5;refine⟨h2,?_,Z7,l1.trans l2⟩;simp -implicitDefEqProofs only[XK o9,fE5,N4,ae,JZ (e:=e) Z5,HD];rw[aU e1];simp -implicitDefEqProofs only[ae,J0 (e:=e) Z5,HD,I0,aj];rw[aU e2];rfl
  simp -implicitDefEqProofs only[XG o9];by_cases o11:e.op=11
  ·have hl:e.args.length=3:=Z5
   have r0:=dw h (k:=0) Z5;have r1:=dw h (k:=1) Z5;have r2:=dw h (k:=2) Z5;obtain⟨h1,e1,H1,l1⟩:=ih _ r0 names Z5 c hp l H Z5;have g1:=cJ vars _ _ r0 names c;obtain⟨h2,e2,H2,l2⟩:=t163 (em:=fun x=>bK vars n x names) (ih _ r1 names Z5) (ih _ r2 names Z5) (cJ vars _ _ r1 names) (cJ vars _ _ r2 names) H1 Z5;refine⟨h2,?_,Z7,l1.trans l2⟩;simp -implicitDefEqProofs only[XK o11,fE5,N4,ae,JZ (e:=e) Z5,HD];rw[aU e1];simp -implicitDefEqProofs only[ae,J0 (e:=e) Z5,VJ (e:=e) Z5,HD];rw[aU e2];rfl
  simp -implicitDefEqProofs only[XG o11];by_cases o12:e.op=12
  ·have hl:e.args.length=2:=Z5
   have r0:=dw h (k:=0) Z5;have r1:=dw h (k:=1) Z5;obtain⟨h1,e1,H1,l1⟩:=ih _ r0 names Z5 c hp l H Z5;have g1:=cJ vars _ _ r0 names c;simp -implicitDefEqProofs only[XK o12];generalize bK vars n e.args[0]! names c=c1 at *;obtain⟨h2,e2,H2,l2⟩:=t125 H1 (cD 3 names.length) Z5;have g2:=dt (cD 3 names.length) c1;generalize gJ (cD 3 names.length) c1=c2 at *;obtain⟨x,hx,cx⟩:=H2;have hlt:=lY hx;have st:bN T 3 (.hp l 2) (.int .i64 (max c2.2 ((names.length:Int)+1))) h2= .ok (.tup []) (h2.set l [ca vars,x,.int .i64 (max c2.2 ((names.length:Int)+1))]):=
    s7 (T:=T) (t:=3) rfl (v:=.int .i64 (max c2.2 ((names.length:Int)+1))) hx rfl (show 2+1<=3 by omega) Z6
   have H3:CS (h2.set l [ca vars,x,.int .i64 (max c2.2 ((names.length:Int)+1))]) l vars (c2.1,max c2.2 ((names.length:Int)+1)):=by
    refine⟨x,Z7,?_⟩;rcases cx with cx|⟨z1,lb,z2,z3,z4⟩
    ·exact .inl cx
    ·exact .inr ⟨z1,lb,z2,z3,Z7⟩
   obtain⟨h3,e3,H4,l3⟩:=ih _ r1 (names++[e.s]) WD _ _ l H3 Z7;refine⟨h3,?_,H4,((l1.trans l2).trans (sK.set (XM _))).trans l3⟩;have hw:IntKind.i64.wrap ((names.length:Int)+1)=names.length+1:=aW Z5 Z5;have hap:dH T 27 (strs names) (strs [e.s])=some (strs (names++[e.s])):=Ji WD;simp -implicitDefEqProofs only[fE5,N4,ae,JZ (e:=e) Z5,HD];rw[aU e1];simp -implicitDefEqProofs only[ae,g9,Nh];rw[aU e2];simp -implicitDefEqProofs only[ae,HU,fC2];rw[aU (HJ hx)];simp -implicitDefEqProofs only[ae,g9,bm,hw,Xh];rw[aU st];simp -implicitDefEqProofs only[ae,fE5,N4,J0 (e:=e) Z5,HD,t97 names Z5,da,aj,fE2,O0,Ws,hap];rw[aU e3];rfl
  simp -implicitDefEqProofs only[XG o12];have hm:e.args.length*oD n<=8*oD n:=XR _ h8;obtain⟨h1,e1,H1,l1⟩:=t164 (em:=fun x=>bK vars n x names) (L:=oD n) (es:=e.args) Z5 (fun x hx=>ih x (gB h hx) names Z5) (fun x hx=>cJ vars n x (gB h hx) names) H Z5;have g1:=tX (fun x=>bK vars n x names) (oD n) e.args (fun x hx=>cJ vars n x (gB h hx) names) c;dsimp only at g1 H1;generalize e.args.foldl (fun c x=>bK vars n x names c) c=c1 at *;obtain⟨h2,e2,H2,l2⟩:=t125 H1 (rn vars e) Z5;have hpl:=t165 H1 hv e (fun h13=>Z7);refine⟨h2,?_,H2,l1.trans l2⟩;simp -implicitDefEqProofs only[fE5,N4,ae];rw[aU e1];simp -implicitDefEqProofs only[ae,HD];rw[aU hpl,aU e2];rfl
theorem G8(k:Int)(es:List Exp):cH T false 121 [(0,.int .i64 k),(5,dn es)]=some (Exp.mk k 0 [] [] [] es).av:=rfl
def Ca(e:Exp):ct 6 e.av=ao e.av:=Z9
def GQ(e:Exp):bH 6 [] e.av=ao e.av:=Z9
def f6(o n:Int)(s m:ba)(ns:List ba)(es:List Exp):AV.agg [.int .i64 o,.int .i64 n,.str s,.str m,strs ns,dn es]=(Exp.mk o n s m ns es).av:=kL (Exp.mk o n s m ns es)
def Wu(o n:Int)(s m:ba)(es:List Exp):AV.agg [.int .i64 o,.int .i64 n,.str s,.str m,.sl [],dn es]=(Exp.mk o n s m [] es).av:=kL (Exp.mk o n s m [] es)
def D7(e:Exp)(n:Int):bj (ao (.tup [e.av,.int .i64 n]))=ao (.tup [e.av,.int .i64 n]):=dB fun g=>by simp[cl,fk]
def iU(o n:Int)(s m:ba)(ns:List ba)(es:List Exp):aa (Exp.mk o n s m ns es).av=[.int .i64 o,.int .i64 n,.str s,.str m,strs ns,dn es]:=cr _
def t182(e:Exp):af pg 182 [e.av]=ao (.tup [(iY e).1.av,.int .i64 (iY e).2]):=by
 have hc1:∀n:Int,fW (.int .i64 n)=ao (.int .i64 n):=fun n=>rfl;have hc2:∀s:ba,fW (.str s)=ao (.str s):=fun s=>rfl;have hc3:∀s:List ba,fW (strs s)=ao (strs s):=fun s=>rfl;rw[C182];obtain⟨o,n,s,m,ns,es⟩:=e;have ho:o=0\/o=1\/o=2\/o=17\/o=18\/o=14\/o=16\/o=10\/o=12\/o=11\/o=13\/o=15\/(o≠0/\o≠1/\o≠2/\o≠17/\o≠18/\o≠14/\o≠16/\o≠10/\o≠12/\o≠11/\o≠13/\o≠15):=Z5
 rcases ho with rfl|rfl|rfl|rfl|rfl|rfl|rfl|rfl|rfl|rfl|rfl|rfl|⟨h0,h1,h2,h17,h18,h14,h16,h10,h12,h11,h13,h15⟩
 all_goals first
  | (simp[S182,K182_0,K182_1,K182_2,G8,GQ,iU,f6,Wu,hc1,hc2,hc3,iY,Exp.op,Exp.n,Exp.s,Exp.m,Exp.names,Exp.args]
     exact D7 _ _)
  | (simp[S182,K182_0,K182_1,K182_2,G8,GQ,iU,f6,Wu,hc1,hc2,hc3,iY,Exp.op,Exp.n,Exp.s,Exp.m,Exp.names,Exp.args,h0,h1,h2,h17,h18,h14,h16,h10,h12,h11,h13,h15]
     exact D7 _ _)
theorem HT(e:Exp)(he:e.Lim):ak (L183_0 (af pg) ak) [.ip (aa e.av),strs e.names,.int .i64 e.names.length,.int .i64 0]=ao (.bool (jQ e.names)):=by
 have hlen:=he.names
 have hloop:∀(m i:Nat),e.names.length-i=m->i<=e.names.length->ak (L183_0 (af pg) ak) [.ip (aa e.av),strs e.names,.int .i64 e.names.length,.int .i64 i]=ao (.bool ((List.range' i (e.names.length-i)).all (fun k=>cw e.names[k]! && (decide (k=0)||eG e.names[k-1]! e.names[k]!))&&decide (e.names.length<=8))):=by
  intro m
  induction m with
  |zero=>
   intro i hm hi;rw[FL183_0,hm];have h1:¬((i:Int)<(e.names.length:Int)):=Z5
   have h2:decide ((e.names.length:Int)<=8)=decide (e.names.length<=8):=by rw[YF];omega
   simp[L183_0,h1,h2]
  | succ m ih=>
   intro i hm hi;have hlt:i<e.names.length:=Z5
   have h1:(i:Int)<(e.names.length:Int):=Z5
   have ih':=ih (i+1) Z5 Z5;have er:List.range' i (e.names.length-i)=i:: List.range' (i+1) (e.names.length-(i+1)):=by
    rw[show e.names.length-i=(e.names.length-(i+1))+1 by omega,List.range'_succ]
   have hix:=oU (l:=e.names) (n:=(i:Int)) Z5 h1;rw[XP]at hix;have hw:IntKind.i64.wrap ((i:Int)+1)=((i+1:Nat):Int):=aR Z5;have h2:=t119 e.names[i]!;rw[FL183_0,er,X7];generalize e.names[i]! = s at hix h2 |-;cases hn:cw s with
   |false=>
    simp_all[L183_0]
   | true=>
    rw[hn]at h2;rcases Yw i with hk0|hk0
    ·subst hk0;have hix0:aA T 27 (strs e.names) (.int .i64 0)=some (.ip (aa (.str s))):=hix;have hw0:IntKind.i64.wrap 1=1:=rfl;simp_all[L183_0]
    ·have hp:IntKind.i64.wrap ((i:Int)-1)=((i-1:Nat):Int):=by
      rw[aW Z5 Z5];omega
     have h4:((i-1:Nat):Int)<(e.names.length:Int):=Z5
     have hix2:=oU (l:=e.names) (n:=((i-1:Nat):Int)) Z5 h4;rw[XP]at hix2;generalize e.names[i-1]! = g at hix2 |-;have hk2:0<(i:Int):=Z5
     have hk3:¬i=0:=Z5
     have hle:cB T .leq 9 (.str s) (.str g)=some (.bool (!(eG g s))):=by
      have:cB T .leq 9 (.str s) (.str g)=some (.bool (ck s g||s== g)):=rfl;rw[this];simp[eG]
     cases hs:eG g s with
     |false=>
      simp_all[L183_0]
     |true=>
      simp_all[L183_0]
 have h:=hloop e.names.length 0 rfl (X2 _);rw[Zl,xV]at h;exact h
theorem t183(e:Exp)(he:e.Lim):af pg 183 [e.av]=ao (.bool (iH e)):=by
 rw[C183];have hs:=t119 e.s;have hm:=t119 e.m;have hbn:=HT e he;obtain⟨o,n,s,m,ns,es⟩:=e;simp only[iU,Exp.names]at hbn;simp only[Exp.s,Exp.m]at hs hm;have ho:o=0\/o=1\/o=2\/o=17\/o=18\/o=14\/o=16\/o=12\/o=13\/o=15\/(o≠0/\o≠1/\o≠2/\o≠17/\o≠18/\o≠14/\o≠16/\o≠12/\o≠13/\o≠15):=Z5
 rcases ho with rfl|rfl|rfl|rfl|rfl|rfl|rfl|rfl|rfl|rfl|⟨h0,h1,h2,h17,h18,h14,h16,h12,h13,h15⟩
 ·simp[S183,K183_0,iU,iH,Exp.op,Exp.n,Exp.s,Exp.m,Exp.names,Exp.args];rfl
 ·simp_all[S183,iH,Exp.op]
 ·simp_all[S183,K183_0,iH,Exp.op,Exp.s]
 ·simp_all[S183,K183_0,iH,Exp.op,Exp.s]
 ·simp_all[S183,K183_0,iH,Exp.op,Exp.s]
 ·simp_all[S183,K183_0,iH,Exp.op,Exp.s]
 ·simp_all[S183,iH,Exp.op]
 ·simp_all[S183,K183_0,iH,Exp.op,Exp.s]
 ·simp_all[S183,K183_0,iH,Exp.op,Exp.n,Exp.s,Exp.m,Exp.names,Exp.args]
 ·have e6:cB T .leq 3 (.int .i64 es.length) (.int .i64 6)=some (.bool (decide (es.length<=6))):=by
   have:cB T .leq 3 (.int .i64 es.length) (.int .i64 6)=some (.bool (decide ((es.length:Int)<=6))):=rfl;rw[this];exact Ym (fun b=>some (AV.bool b)) (YF.2 Z5)
  cases ha:cw s with
  |false=>simp_all[S183,K183_0,iH,Exp.op,Exp.s]
  | true=>
   rw[ha]at hs;by_cases hme:m=[]
   ·simp[S183,K183_0,iU,iH,Exp.op,Exp.n,Exp.s,Exp.m,Exp.names,Exp.args,hs,ha,hme,e6,-dh];try rfl
   ·cases hb:cw m with
    |false=>rw[hb]at hm;simp[S183,K183_0,iU,iH,Exp.op,Exp.n,Exp.s,Exp.m,Exp.names,Exp.args,hs,hm,ha,hb,hme,e6,-dh];try rfl
    |true=>rw[hb]at hm;simp[S183,K183_0,iU,iH,Exp.op,Exp.n,Exp.s,Exp.m,Exp.names,Exp.args,hs,hm,ha,hb,hme,e6,-dh];try rfl
 simp_all[S183,K183_0,iH,Exp.op]
theorem t159:∀(d:Nat),d<=100->∀(e:Exp),e.Lim->af pg 159 [e.av,.int .i64 d]=ao (.bool (cS d e))
 |0,_,e,_=>by
  rw[C159];simp[S159,cS]
 | d+1,hd,e,he=>by
  have hlen:=he.len;have hd1:IntKind.i64.wrap (((d+1:Nat):Int)-1)=(d:Int):=xL Z5;have hloop:∀(m i:Nat),e.args.length-i=m->i<=e.args.length->ak (L159_0 (af pg) ak) [.int .i64 ((d+1:Nat):Int),dn e.args,.int .i64 e.args.length,.int .i64 i]=ao (.bool ((e.args.drop i).all (cS d))):=by
   intro m
   induction m with
   |zero=>
    intro i hm hi;have h1:¬((i:Int)<(e.args.length:Int)):=Z5
    have h2:e.args.drop i=[]:=List.drop_eq_nil_of_le Z5;rw[FL159_0,h2];simp[L159_0,h1]
   |succ m ih=>
    intro i hm hi;have hlt:i<e.args.length:=Z5
    have h1:(i:Int)<(e.args.length:Int):=Z5
    have h2:e.args.drop i=e.args[i]:: e.args.drop (i+1):=List.drop_eq_getElem_cons hlt;have hix:=nf (l:=e.args) (n:=(i:Int)) Z5 h1;rw[XP,XN e.args i hlt]at hix;have hw:IntKind.i64.wrap ((i:Int)+1)=((i+1:Nat):Int):=aR Z5;have hb:=t159 d Z5 e.args[i] (he.kid (XU hlt));have ih':=ih (i+1) Z5 Z5;rw[h2,X7,FL159_0];generalize e.args[i]=x at hix hb |-;cases hr:cS d x<;>rw[hr]at hb <;>
    simp only[L159_0,am,au,aB,ae,h1,X8,ai,XS,hix,cr,LD121,Yb,Yk,XX,Nat.reduceAdd,XM,Yr,Yq,kL,Ca,aj,fI,hd1,hb,aT,Yi,XZ,XH,XO,bm,hw,ih',YV,YN]
  have hx':ak (L159_0 (af pg) ak) [.int .i64 ((d:Int)+1),dn e.args,.int .i64 e.args.length,.int .i64 0]=ao (.bool (e.args.all (cS d))):=hloop e.args.length 0 rfl (X2 _);have hc:=t182 e;have hl:=t183 e he;rw[C159,fG];unfold im;generalize (iY e).1=c at hc |-;generalize (iY e).2=n at hc |-;have g1:(((d:Int)+1)== 0)=false:=by rw[Zc];omega
  have x0:dA (.tup [c.av,.int .i64 n]) 0=some c.av:=rfl;have x1:dA (.tup [c.av,.int .i64 n]) 1=some (.int .i64 n):=rfl;have e1:cB T .neq 3 (.int .i64 c.n) (.int .i64 e.n)=some (.bool (!(c.n== e.n))):=rfl;have e2:cB T .neq 9 (.str c.s) (.str e.s)=some (.bool (!(c.s== e.s))):=rfl;have e3:cB T .neq 9 (.str c.m) (.str e.m)=some (.bool (!(c.m== e.m))):=rfl;have e4:cB T .neq 3 (.int .i64 c.names.length) (.int .i64 e.names.length)=some (.bool (!((c.names.length:Int)== (e.names.length:Int)))):=rfl;have e5:cB T .neq 3 (.int .i64 n) (.int .i64 e.args.length)=some (.bool (!(n== (e.args.length:Int)))):=rfl;have e6:cB T .geq 3 (.int .i64 n) (.int .i64 0)=some (.bool (!(decide (n<0)))):=by
   have:cB T .geq 3 (.int .i64 n) (.int .i64 0)=some (.bool (decide (0<=n))):=rfl;rw[this,<- ZI];exact Ym (fun b=>some (AV.bool b)) (YF.2 Z5)
  have e7:cB T .lss 3 (.int .i64 e.op) (.int .i64 0)=some (.bool (!(decide (0<=e.op)))):=by
   have:cB T .lss 3 (.int .i64 e.op) (.int .i64 0)=some (.bool (decide (e.op<0))):=rfl;rw[this,<- ZI];exact Ym (fun b=>some (AV.bool b)) (YF.2 Z5)
  have e8:cB T .geq 3 (.int .i64 e.op) (.int .i64 19)=some (.bool (!(decide (e.op<19)))):=by
   have:cB T .geq 3 (.int .i64 e.op) (.int .i64 19)=some (.bool (decide (19<=e.op))):=rfl;rw[this,<- ZI];exact Ym (fun b=>some (AV.bool b)) (YF.2 Z5)
  generalize (c.n== e.n)=b1 at e1 |-;generalize (c.s== e.s)=b2 at e2 |-;generalize (c.m== e.m)=b3 at e3 |-;generalize ((c.names.length:Int)== (e.names.length:Int))=b4 at e4 |-;generalize (n== (e.args.length:Int))=b5 at e5 |-;generalize decide (n<0)=b6 at e6 |-;generalize decide (0<=e.op)=b7 at e7 |-;generalize decide (e.op<19)=b8 at e8 |-;generalize iH e=bl at hl |-;generalize e.args.all (cS d)=bx at hx' |-;cases b7 with
  |false=>simp[S159,g1,e7,-aB]
  | true=>
   cases b8 with
   |false=>simp_all[S159]
   |true=>
    cases b6<;>cases b5<;>cases b1<;>cases b2<;>cases b3<;>cases b4<;>cases bl<;>simp[S159,g1,hc,x0,x1,Ca,hl,hx',e1,e2,e3,e4,e5,e6,e7,e8,-aB,-jm,-gC]
def t122(e:Exp)(he:e.Lim):af pg 122 [e.av]=ao (.bool (FV e)):=by
 have hb':af pg 159 [e.av,.int .i64 12]=ao (.bool (cS 12 e)):=t159 12 Z5 e he;rw[C122];simp[S122,hb']
def setRow(ns:List ba):List AV:=ns.map fun s=>.tup [.str s,.bool true]
theorem ND(a b:ba):qO T 20 9 (.str a) (.str b)=some (a== b):=rfl
theorem qS(s:ba):(ns:List ba)->(i:Nat)->(ns.contains s=false/\eO T 9 (.str s) (setRow ns) i=some none)\/(ns.contains s=true/\∃(j:Nat)(k:AV),eO T 9 (.str s) (setRow ns) i=some (some (j,k,.bool true)))
 |[],i=>.inl ⟨rfl,rfl⟩
 | x:: ns,i=>by
  show (_/\eO T 9 (.str s) (.tup [.str x,.bool true]:: setRow ns) i=_)\/(_/\∃(j:Nat)(k:AV),eO T 9 (.str s) (.tup [.str x,.bool true]:: setRow ns) i=_);unfold eO;rw[ND,List.contains_cons];cases h:s== x with
  |true=>grind
  |false=>
   rcases qS s ns (i+1)with⟨h1,h2⟩|⟨h1,j,k,h2⟩
   all_goals grind
theorem uD{h:Hp}{l:Nat}{ns:List ba}(hl:h[l]? = some [.tup (setRow ns)])(s:ba):d8 T 138 (.mp l) (.str s) false h= .ok (.bool (ns.contains s)) h:=by
 have e:oN T 138 (setRow ns) (.str s) false=(match eO T 9 (.str s) (setRow ns) 0 with
   |some (some (_,_,v))=>some v
   |some none=>some (.bool false)
   |none=>none):=rfl
 grind [d8,mY,qS]
theorem yI{h:Hp}{l:Nat}{ns:List ba}(hl:h[l]? = some [.tup (setRow ns)])(s:ba)(hs:ns.contains s=false):oE T 138 (.mp l) (.str s) (.bool true) h= .ok (.tup []) (h.set l [.tup (setRow (ns++[s]))]):=by
 have e:oE T 138 (.mp l) (.str s) (.bool true) h=(match h[l]? with
   |some [.tup es]=>(match wa T 9 es (.str s) (.bool true)with
    |some es'=>.ok (.tup []) (h.set l [.tup es'])
    |none=>.fail)
   |_=>.fail):=rfl
 grind [wa,qS,setRow]
theorem kc{α β:Type}{m:M α}{a:α}{h h':Hp}(e:m h= .ok a h')(f:α->M β):ar m f h=f a h':=by simp only[ar,e]
theorem mJ{α:Type}(F:α->Bool):(l:List α)->(i:Int)->(l.find? F=none/\bb F l i= -1)\/∃(k:Nat)(x:α),l.find? F=some x/\l[k]? = some x/\bb F l i=i+k
 |[],i=>.inl ⟨rfl,rfl⟩
 | x:: l,i=>by
  cases h:F x with
  |true=>exact .inr ⟨0,x,by simp[h],rfl,by simp[bb,h]⟩
  |false=>
   rcases mJ F l (i+1)with⟨h1,h2⟩|⟨k,y,h1,h2,h3⟩
   ·grind [bb]
   ·exact .inr ⟨k+1,y,by simp[h,h1],by simpa using h2,by simp[bb,h,h3];omega⟩
theorem J9(l:List fu)(hb:l.length<=140737488355328)(ht:∀f∈l,f.2.Lim)(most:Int)(q:Nat):∀(n i:Nat),l.length-i=n->i<=l.length->∀(seen:List ba)(h:Hp),h[q]? = some [.tup (setRow seen)]->
  ∃h',ak (L120_0 (af pg) ak) [ca l,.int .i64 most,.mp q,ca l,.int .i64 l.length,.int .i64 i] h= .ok (.bool (AY seen (l.drop i)&&decide ((l.length:Int)<=most))) h':=by
 intro n
 induction n with
 |zero=>
  intro i hn hi seen h hq;rw[FL120_0];have h1:¬((i:Int)<(l.length:Int)):=Z5
  have h2:l.drop i=[]:=List.drop_eq_nil_of_le Z5;rw[h2];exact⟨h,by simp[L120_0,h1,AY,ao]⟩
 | succ n ih=>
  intro i hn hi seen h hq;have hlt:i<l.length:=Z5
  have h1:(i:Int)<(l.length:Int):=Z5
  have h2:l.drop i=l[i]:: l.drop (i+1):=List.drop_eq_getElem_cons hlt;have hw:IntKind.i64.wrap ((i:Int)+1)=((i+1:Nat):Int):=aR Z5;have hix:=vJ (l:=l) (n:=(i:Int)) Z5 h1;rw[XP,XN l i hlt]at hix;have hfl:=ht _ (XU hlt);have ih':=fun s=>ih (i+1) Z5 Z5 (seen++[s]) (h.set q [.tup (setRow (seen++[s]))]);have hql:q<h.length:=(XQ.1 hq).1;rw[h2];generalize l[i]=f at hix hfl |-;have hlk:=uD hq f.1;have hnm:=t119 f.1;have hty:=t121 f.2 hfl;have hcf:ct 3 (dZ f)=ao (dZ f):=by rw[bc (uM f),kC,Ab]
  generalize hcode:ak (L120_0 (af pg) ak) [ca l,.int .i64 most,.mp q,ca l,.int .i64 l.length,.int .i64 i] h=code;rw[FL120_0]at hcode;simp -implicitDefEqProofs only[L120_0,am,au,aB,ae,h1,X8,ai,XS,hix,kC,LD143,Yb,Yk,XX,Nat.reduceAdd,XM,Yr,Yq,Ab,hcf,aj,FA143_0,FA143_1,X0,X3,LD9]at hcode;rw[kc hlk]at hcode;have eo:AY seen (f:: l.drop (i+1))=(!(seen.contains f.1)&&cw f.1&&jS f.2&&AY (seen++[f.1]) (l.drop (i+1))):=rfl;rw[eo];cases hc:seen.contains f.1 with
  |true=>
   rw[hc]at hcode;refine⟨h,?_⟩;rw[<- hcode];simp[ao]
  | false=>
   rw[hc]at hcode;cases hn2:cw f.1 with
   |false=>
    rw[hn2]at hnm;refine⟨h,?_⟩;simp_all[ao]
   | true=>
    rw[hn2]at hnm;cases hr:jS f.2 with
    |false=>
     rw[hr]at hty;refine⟨h,?_⟩;simp_all[ao]
    |true=>
     rw[hr]at hty;obtain⟨h',e'⟩:=ih' f.1 Z7;refine⟨h',?_⟩;have hp:=yI hq f.1 hc;rw[<- hcode];simp -implicitDefEqProofs only[hnm,hty,aj,aS,aT,XZ,Yi,am,bD,ai,XH,XO,LD119,Yb,Yk,XX,Nat.reduceAdd,XM,XS,Yr,Yq,yp,ae];rw[kc hp];simp_all
theorem t120(l:List fu)(hb:l.length<=140737488355328)(ht:∀f∈l,f.2.Lim)(most:Int):af pg 120 [ca l,.int .i64 most]=ao (.bool (iK l most)):=by
 obtain⟨h',e⟩:=J9 l hb ht most 0 l.length 0 rfl (X2 _) [] ([]++[[.tup []]]) rfl;rw[X0]at e;rw[C120];funext hp;have key:S120 (af pg) ak (cl aF (ca l)) (cl aF (.int .i64 most)) []= .ok (.bool (iK l most)) h':=by
  rw[xX,xY];have hn:ga []= .ok (.mp 0) ([]++[[.tup []]]):=rfl;simp -implicitDefEqProofs only[S120];rw[kc hn];simp only[mh,ae];exact e
 show bj _ hp=R.ok (.bool (iK l most)) hp;unfold bj;rw[key];rfl
def t123(l:List Exp)(hb:l.length<=140737488355328)(ht:∀e∈l,e.Lim)(n:Int):af pg 123 [dn l,.int .i64 n]=ao (.bool (l.all FV&&((l.length:Int)== n))):=by
 have hloop:∀(m i:Nat),l.length-i=m->i<=l.length->ak (L123_0 (af pg) ak) [dn l,.int .i64 n,dn l,.int .i64 l.length,.int .i64 i]=ao (.bool ((l.drop i).all FV&&((l.length:Int)== n))):=by
  intro m
  induction m with
  |zero=>
   intro i hm hi;rw[FL123_0];have h1:¬((i:Int)<(l.length:Int)):=Z5
   have h2:l.drop i=[]:=List.drop_eq_nil_of_le Z5;simp[L123_0,h1,h2]
  |succ m ih=>
   intro i hm hi;have hlt:i<l.length:=Z5
   have h1:(i:Int)<(l.length:Int):=Z5
   have h2:l.drop i=l[i]:: l.drop (i+1):=List.drop_eq_getElem_cons hlt;have hw:IntKind.i64.wrap ((i:Int)+1)=((i+1:Nat):Int):=aR Z5;have hix:=nf (l:=l) (n:=(i:Int)) Z5 h1;rw[XP,XN l i hlt]at hix;have hr:=t122 l[i] (ht _ (XU hlt));have ih':=ih (i+1) Z5 Z5;rw[h2,X7,FL123_0];generalize l[i]=e at hix hr |-;cases hb2:FV e<;>rw[hb2]at hr <;>
   simp only[L123_0,am,au,aB,ae,h1,X8,ai,XS,hix,cr,LD121,Yb,Yk,XX,Nat.reduceAdd,XM,Yr,Yq,kL,Ca,aj,hr,aT,XZ,Yi,XH,XO,bm,hw,ih',YN,YV]
 have h:=hloop l.length 0 rfl (X2 _);rw[X0]at h;have h':ak (L123_0 (af pg) ak) [dn l,.int .i64 n,dn l,.int .i64 l.length,.int .i64 0]=ao (.bool (l.all FV&&((l.length:Int)== n))):=h;rw[C123];simp[S123,h']
def JK(f:Fun):ct 12 f.av=ao f.av:=Z9
theorem Kf(m:Ap.Mod)(hm:m.Lim)(q:Nat)(R:Bool)(hend:∀h:Hp,∃h',ak (L68_0 (af pg) ak) [.ip (aa m.av),.mp q,iP m.funcs,.int .i64 m.funcs.length,.int .i64 m.funcs.length] h= .ok (.bool R) h'):∀(n i:Nat),m.funcs.length-i=n->i<=m.funcs.length->∀(seen:List ba)(h:Hp),h[q]? = some [.tup (setRow seen)]->
  ∃h',ak (L68_0 (af pg) ak) [.ip (aa m.av),.mp q,iP m.funcs,.int .i64 m.funcs.length,.int .i64 i] h= .ok (.bool (sk seen (m.funcs.drop i)&&R)) h':=by
 have hb:=hm.funcs;intro n
 induction n with
 |zero=>
  intro i hn hi seen h hq;have h2:m.funcs.drop i=[]:=List.drop_eq_nil_of_le Z5;obtain rfl:i=m.funcs.length:=Z5
  rw[h2];exact hend h
 | succ n ih=>
  intro i hn hi seen h hq;have hlt:i<m.funcs.length:=Z5
  have h1:(i:Int)<(m.funcs.length:Int):=Z5
  have h2:m.funcs.drop i=m.funcs[i]:: m.funcs.drop (i+1):=List.drop_eq_getElem_cons hlt;have hw:IntKind.i64.wrap ((i:Int)+1)=((i+1:Nat):Int):=aR Z5;have hix:=BE (l:=m.funcs) (n:=(i:Int)) Z5 h1;rw[XP,XN m.funcs i hlt]at hix;have hfl:=hm.fns _ (XU hlt);have ih':=fun s=>ih (i+1) Z5 Z5 (seen++[s]) (h.set q [.tup (setRow (seen++[s]))]);have hql:q<h.length:=(XQ.1 hq).1;rw[h2];generalize m.funcs[i]=f at hix hfl |-;have hlk:=uD hq f.name;have hnm:=t119 f.name;have hps:=t120 f.params hfl.params hfl.pty 6;have hty:=t121 f.result hfl.result;have hre:=t122 f.body hfl.body;have hex:cB T .andNot 3 (.int .i64 f.effects) (.int .i64 15)=some (.int .i64 (mE f.effects 15)):=rfl;generalize hcode:ak (L68_0 (af pg) ak) [.ip (aa m.av),.mp q,iP m.funcs,.int .i64 m.funcs.length,.int .i64 i] h=code;rw[FL68_0]at hcode;simp -implicitDefEqProofs only[L68_0,am,au,aB,ae,h1,X8,ai,XS,hix,kD,LD123,Yb,Yk,XX,Nat.reduceAdd,XM,Yr,Yq,Ac,JK,aj,FA123_0,X0,LD9]at hcode;rw[kc hlk]at hcode;have eo:sk seen (f:: m.funcs.drop (i+1))=(!(seen.contains f.name)&&Fq f&&sk (seen++[f.name]) (m.funcs.drop (i+1))):=rfl;rw[eo];unfold Fq;cases hc:seen.contains f.name with
  |true=>
   rw[hc]at hcode;refine⟨h,?_⟩;rw[<- hcode];simp[ao]
  | false=>
   rw[hc]at hcode;cases hn2:cw f.name with
   |false=>rw[hn2]at hnm;refine⟨h,?_⟩;rw[<- hcode];simp[hnm,ao]
   | true=>
    rw[hn2]at hnm;cases hp2:iK f.params 6 with
    |false=>rw[hp2]at hps;refine⟨h,?_⟩;rw[<- hcode];simp[hnm,hps,ao]
    | true=>
     rw[hp2]at hps;cases hr:jS f.result with
     |false=>rw[hr]at hty;refine⟨h,?_⟩;simp_all[ao]
     | true=>
      rw[hr]at hty;cases hrb:FV f.body with
      |false=>rw[hrb]at hre;refine⟨h,?_⟩;simp_all[ao]
      | true=>
       rw[hrb]at hre;by_cases he:mE f.effects 15=0
       ·obtain⟨h',e'⟩:=ih' f.name Z7;refine⟨h',?_⟩;have hp:=yI hq f.name hc;rw[<- hcode];have e'':=e';simp only[eY]at e'';simp[hnm,hps,hty,hre,hex,he]
        grind [kc]
       ·refine⟨h,?_⟩;rw[<- hcode];simp_all[mE,ao]
def Ra(m:Ap.Mod)(hm:m.Lim)(q:Nat)(h:Hp):∃h',ak (L68_0 (af pg) ak) [.ip (aa m.av),.mp q,iP m.funcs,.int .i64 m.funcs.length,.int .i64 m.funcs.length] h= .ok (.bool (xv m)) h':=by
 have hnm:=t119 m.name;have hv:=t120 m.vars hm.vars hm.vty 8;have hi:=t123 m.init hm.init hm.ies m.vars.length;have ho:=t120 m.old hm.old hm.oty 8;have hf:=fun n=>t123 m.forward hm.forward hm.fes n;have hb:=t123 m.back hm.back hm.bes m.old.length;refine⟨h,?_⟩;rw[FL68_0];unfold xv;generalize iK m.vars 8=b1 at hv |-;generalize (m.init.all FV&&((m.init.length:Int)== (m.vars.length:Int)))=b2 at hi |-;generalize iK m.old 8=b3 at ho |-;generalize (m.back.all FV&&((m.back.length:Int)== (m.old.length:Int)))=b4 at hb |-;cases hn:cw m.name with
 |false=>simp_all[L68_0,ao]
 | true =>
  rw[hn]at hnm;by_cases hu:m.uses.length<=12
  ·have hu':¬(12<(m.uses.length:Int)):=Z5
   by_cases hfn:m.funcs.length<=30
   ·have hfn':¬(30<(m.funcs.length:Int)):=Z5
    cases b1 with
    |false=>simp_all[L68_0,ao]
    | true=>
     cases b2 with
     |false=>simp_all[L68_0,ao]
     | true=>
      cases hmv:m.moves with
      |true=>
       have hfv:=hf m.vars.length;rw[XK rfl];simp_all[L68_0,K68_0,ao]
      | false=>
       have hfv:=hf 0;rw[XG Z6];generalize (m.forward.all FV&&((m.forward.length:Int)== 0))=b5 at hfv |-;by_cases hz:0<m.old.length
       ·have hz':0<(m.old.length:Int):=Z5
        have hz2:¬m.old.length=0:=Z5
        simp_all[L68_0,ao]
       simp_all[ao,L68_0,K68_0]
   ·have hfn':30<(m.funcs.length:Int):=Z5
    simp[L68_0,hnm,hu,hu',hfn,hfn',ao]
  ·have hu':12<(m.uses.length:Int):=Z5
   simp[L68_0,hnm,hu,hu',ao]
theorem Kg(m:Ap.Mod)(hm:m.Lim)(q:Nat)(R:Bool)(hend:∀h:Hp,∃h',ak (L68_1 (af pg) ak) [.ip (aa m.av),.mp q,strs m.uses,.int .i64 m.uses.length,.int .i64 m.uses.length] h= .ok (.bool R) h'):∀(n i:Nat),m.uses.length-i=n->i<=m.uses.length->∀(seen:List ba)(h:Hp),h[q]? = some [.tup (setRow seen)]->
  ∃h',ak (L68_1 (af pg) ak) [.ip (aa m.av),.mp q,strs m.uses,.int .i64 m.uses.length,.int .i64 i] h= .ok (.bool (HZ seen (m.uses.drop i)&&R)) h':=by
 have hb:=hm.uses;intro n
 induction n with
 |zero=>
  intro i hn hi seen h hq;have h2:m.uses.drop i=[]:=List.drop_eq_nil_of_le Z5;obtain rfl:i=m.uses.length:=Z5
  rw[h2];exact hend h
 | succ n ih=>
  intro i hn hi seen h hq;have hlt:i<m.uses.length:=Z5
  have h1:(i:Int)<(m.uses.length:Int):=Z5
  have h2:m.uses.drop i=m.uses[i]:: m.uses.drop (i+1):=List.drop_eq_getElem_cons hlt;have hw:IntKind.i64.wrap ((i:Int)+1)=((i+1:Nat):Int):=aR Z5;have hix:=oU (l:=m.uses) (n:=(i:Int)) Z5 h1;rw[XP,XN m.uses i hlt]at hix;have ih':=fun s=>ih (i+1) Z5 Z5 (seen++[s]) (h.set q [.tup (setRow (seen++[s]))]);have hql:q<h.length:=(XQ.1 hq).1;rw[h2];generalize m.uses[i]=s at hix |-;have hlk:=uD hq s;have hnm:=t119 s;generalize hcode:ak (L68_1 (af pg) ak) [.ip (aa m.av),.mp q,strs m.uses,.int .i64 m.uses.length,.int .i64 i] h=code;rw[FL68_1]at hcode;simp -implicitDefEqProofs only[L68_1,am,au,aB,ae,h1,X8,ai,XS,hix,mj,LD9]at hcode;rw[kc hlk]at hcode;have eo:HZ seen (s:: m.uses.drop (i+1))=(!(seen.contains s)&&cw s&&HZ (seen++[s]) (m.uses.drop (i+1))):=rfl;rw[eo];cases hc:seen.contains s with
  |true=>
   rw[hc]at hcode;refine⟨h,?_⟩;rw[<- hcode];simp[ao]
  | false=>
   rw[hc]at hcode;cases hn2:cw s with
   |false=>rw[hn2]at hnm;refine⟨h,?_⟩;rw[<- hcode];simp[hnm,ao]
   |true=>
    rw[hn2]at hnm;obtain⟨h',e'⟩:=ih' s Z7;refine⟨h',?_⟩;have hp:=yI hq s hc;rw[<- hcode];have e'':=e';simp only[eY]at e'';simp[hnm]
    grind [kc]
theorem t68(m:Ap.Mod)(hm:m.Lim):af pg 68 [m.av]=ao (.bool (ij m)):=by
 have hend:∀h:Hp,∃h',ak (L68_1 (af pg) ak) [.ip (aa m.av),.mp 0,strs m.uses,.int .i64 m.uses.length,.int .i64 m.uses.length] h= .ok (.bool (sk [] m.funcs&&xv m)) h':=fun h=>by
  have h1:¬((m.uses.length:Int)<(m.uses.length:Int)):=Z5
  obtain⟨h',e⟩:=Kf m hm h.length (xv m) (fun h=>Ra m hm _ h) m.funcs.length 0 rfl (X2 _) [] (h++[[.tup []]]) (by simp[setRow]);rw[X0]at e;refine⟨h',?_⟩;rw[FL68_1];have hn:ga h= .ok (.mp h.length) (h++[[.tup []]]):=rfl;simp only[eY]at e;simp -implicitDefEqProofs only[L68_1,am,au,aB,ae,h1,Y4,ai,XH,XO];rw[kc hn];simp_all
 obtain⟨h',e⟩:=Kg m hm 0 _ hend m.uses.length 0 rfl (X2 _) [] ([]++[[.tup []]]) rfl;rw[X0]at e;rw[C68];funext hp;have key:S68 (af pg) ak (cl aF m.av) []= .ok (.bool (ij m)) h':=by
  have hn:ga []= .ok (.mp 0) ([]++[[.tup []]]):=rfl;simp only[eY]at e;rw[xZ];simp -implicitDefEqProofs only[S68];rw[kc hn];simp only[eY,FA53_1,X3,X0,ae,LD27,g9];exact e
 show bj _ hp=R.ok (.bool (ij m)) hp;unfold bj;rw[key];rfl
end Go.Proofs.YtbndmpiddinalacGreatDoor
