/- What the functions compute, part 5. Conditions: bounds. -/
import Derived.Test.YtbndmpiddinalaaGreatDoorTd
set_option linter.defProp false
set_option linter.unusedSimpArgs false
set_option linter.unusedVariables false
namespace Go.Proofs.YtbndmpiddinalaaGreatDoor
open Go Go.Av Go.Av.Ap
set_option maxRecDepth 100000
@[simp] theorem FA33_0(cs:List AV):ah T 33 (.ip cs) 0=some (.ip (cs.drop 0)):=rfl
@[simp] theorem FH33_0(l k:Nat):ah T 33 (.hp l k) 0=some (.hp l (k+0)):=rfl
@[simp] theorem FA33_1(cs:List AV):ah T 33 (.ip cs) 1=some (.ip (cs.drop 1)):=rfl
@[simp] theorem FH33_1(l k:Nat):ah T 33 (.hp l k) 1=some (.hp l (k+1)):=rfl
@[simp] theorem FA33_2(cs:List AV):ah T 33 (.ip cs) 2=some (.ip (cs.drop 2)):=rfl
@[simp] theorem FH33_2(l k:Nat):ah T 33 (.hp l k) 2=some (.hp l (k+2)):=rfl
@[simp] theorem FA33_3(cs:List AV):ah T 33 (.ip cs) 3=some (.ip (cs.drop 3)):=rfl
@[simp] theorem FH33_3(l k:Nat):ah T 33 (.hp l k) 3=some (.hp l (k+3)):=rfl
@[simp] theorem FA37_0(cs:List AV):ah T 37 (.ip cs) 0=some (.ip (cs.drop 0)):=rfl
@[simp] theorem FH37_0(l k:Nat):ah T 37 (.hp l k) 0=some (.hp l (k+0)):=rfl
@[simp] theorem FA37_1(cs:List AV):ah T 37 (.ip cs) 1=some (.ip (cs.drop 1)):=rfl
@[simp] theorem FH37_1(l k:Nat):ah T 37 (.hp l k) 1=some (.hp l (k+1)):=rfl
@[simp] theorem FA37_2(cs:List AV):ah T 37 (.ip cs) 2=some (.ip (cs.drop 5)):=rfl
@[simp] theorem FH37_2(l k:Nat):ah T 37 (.hp l k) 2=some (.hp l (k+5)):=rfl
@[simp] theorem FA37_3(cs:List AV):ah T 37 (.ip cs) 3=some (.ip (cs.drop 6)):=rfl
@[simp] theorem FH37_3(l k:Nat):ah T 37 (.hp l k) 3=some (.hp l (k+6)):=rfl
@[simp] theorem FA37_4(cs:List AV):ah T 37 (.ip cs) 4=some (.ip (cs.drop 7)):=rfl
@[simp] theorem FH37_4(l k:Nat):ah T 37 (.hp l k) 4=some (.hp l (k+7)):=rfl
@[simp] theorem FA39_0(cs:List AV):ah T 39 (.ip cs) 0=some (.ip (cs.drop 0)):=rfl
@[simp] theorem FH39_0(l k:Nat):ah T 39 (.hp l k) 0=some (.hp l (k+0)):=rfl
@[simp] theorem FA39_1(cs:List AV):ah T 39 (.ip cs) 1=some (.ip (cs.drop 1)):=rfl
@[simp] theorem FH39_1(l k:Nat):ah T 39 (.hp l k) 1=some (.hp l (k+1)):=rfl
@[simp] theorem FA39_2(cs:List AV):ah T 39 (.ip cs) 2=some (.ip (cs.drop 2)):=rfl
@[simp] theorem FH39_2(l k:Nat):ah T 39 (.hp l k) 2=some (.hp l (k+2)):=rfl
@[simp] theorem FA39_3(cs:List AV):ah T 39 (.ip cs) 3=some (.ip (cs.drop 3)):=rfl
@[simp] theorem FH39_3(l k:Nat):ah T 39 (.hp l k) 3=some (.hp l (k+3)):=rfl
@[simp] theorem FA39_4(cs:List AV):ah T 39 (.ip cs) 4=some (.ip (cs.drop 4)):=rfl
@[simp] theorem FH39_4(l k:Nat):ah T 39 (.hp l k) 4=some (.hp l (k+4)):=rfl
@[simp] theorem FA39_5(cs:List AV):ah T 39 (.ip cs) 5=some (.ip (cs.drop 12)):=rfl
@[simp] theorem FH39_5(l k:Nat):ah T 39 (.hp l k) 5=some (.hp l (k+12)):=rfl
@[simp] theorem FA51_0(cs:List AV):ah T 51 (.ip cs) 0=some (.ip (cs.drop 0)):=rfl
@[simp] theorem FH51_0(l k:Nat):ah T 51 (.hp l k) 0=some (.hp l (k+0)):=rfl
@[simp] theorem FA51_1(cs:List AV):ah T 51 (.ip cs) 1=some (.ip (cs.drop 1)):=rfl
@[simp] theorem FH51_1(l k:Nat):ah T 51 (.hp l k) 1=some (.hp l (k+1)):=rfl
@[simp] theorem FA51_2(cs:List AV):ah T 51 (.ip cs) 2=some (.ip (cs.drop 2)):=rfl
@[simp] theorem FH51_2(l k:Nat):ah T 51 (.hp l k) 2=some (.hp l (k+2)):=rfl
@[simp] theorem FA53_0(cs:List AV):ah T 53 (.ip cs) 0=some (.ip (cs.drop 0)):=rfl
@[simp] theorem FH53_0(l k:Nat):ah T 53 (.hp l k) 0=some (.hp l (k+0)):=rfl
@[simp] theorem FA53_1(cs:List AV):ah T 53 (.ip cs) 1=some (.ip (cs.drop 1)):=rfl
@[simp] theorem FH53_1(l k:Nat):ah T 53 (.hp l k) 1=some (.hp l (k+1)):=rfl
@[simp] theorem FA53_2(cs:List AV):ah T 53 (.ip cs) 2=some (.ip (cs.drop 2)):=rfl
@[simp] theorem FH53_2(l k:Nat):ah T 53 (.hp l k) 2=some (.hp l (k+2)):=rfl
@[simp] theorem FA53_3(cs:List AV):ah T 53 (.ip cs) 3=some (.ip (cs.drop 3)):=rfl
@[simp] theorem FH53_3(l k:Nat):ah T 53 (.hp l k) 3=some (.hp l (k+3)):=rfl
@[simp] theorem FA53_4(cs:List AV):ah T 53 (.ip cs) 4=some (.ip (cs.drop 4)):=rfl
@[simp] theorem FH53_4(l k:Nat):ah T 53 (.hp l k) 4=some (.hp l (k+4)):=rfl
@[simp] theorem FA53_5(cs:List AV):ah T 53 (.ip cs) 5=some (.ip (cs.drop 5)):=rfl
@[simp] theorem FH53_5(l k:Nat):ah T 53 (.hp l k) 5=some (.hp l (k+5)):=rfl
@[simp] theorem FA53_6(cs:List AV):ah T 53 (.ip cs) 6=some (.ip (cs.drop 6)):=rfl
@[simp] theorem FH53_6(l k:Nat):ah T 53 (.hp l k) 6=some (.hp l (k+6)):=rfl
@[simp] theorem FA58_0(cs:List AV):ah T 58 (.ip cs) 0=some (.ip (cs.drop 0)):=rfl
@[simp] theorem FH58_0(l k:Nat):ah T 58 (.hp l k) 0=some (.hp l (k+0)):=rfl
@[simp] theorem FA58_1(cs:List AV):ah T 58 (.ip cs) 1=some (.ip (cs.drop 1)):=rfl
@[simp] theorem FH58_1(l k:Nat):ah T 58 (.hp l k) 1=some (.hp l (k+1)):=rfl
@[simp] theorem FA62_0(cs:List AV):ah T 62 (.ip cs) 0=some (.ip (cs.drop 0)):=rfl
@[simp] theorem FH62_0(l k:Nat):ah T 62 (.hp l k) 0=some (.hp l (k+0)):=rfl
@[simp] theorem FA62_1(cs:List AV):ah T 62 (.ip cs) 1=some (.ip (cs.drop 1)):=rfl
@[simp] theorem FH62_1(l k:Nat):ah T 62 (.hp l k) 1=some (.hp l (k+1)):=rfl
@[simp] theorem FA62_2(cs:List AV):ah T 62 (.ip cs) 2=some (.ip (cs.drop 2)):=rfl
@[simp] theorem FH62_2(l k:Nat):ah T 62 (.hp l k) 2=some (.hp l (k+2)):=rfl
@[simp] theorem FA62_3(cs:List AV):ah T 62 (.ip cs) 3=some (.ip (cs.drop 3)):=rfl
@[simp] theorem FH62_3(l k:Nat):ah T 62 (.hp l k) 3=some (.hp l (k+3)):=rfl
@[simp] theorem FA62_4(cs:List AV):ah T 62 (.ip cs) 4=some (.ip (cs.drop 4)):=rfl
@[simp] theorem FH62_4(l k:Nat):ah T 62 (.hp l k) 4=some (.hp l (k+4)):=rfl
@[simp] theorem FA74_0(cs:List AV):ah T 74 (.ip cs) 0=some (.ip (cs.drop 0)):=rfl
@[simp] theorem FH74_0(l k:Nat):ah T 74 (.hp l k) 0=some (.hp l (k+0)):=rfl
@[simp] theorem FA74_1(cs:List AV):ah T 74 (.ip cs) 1=some (.ip (cs.drop 1)):=rfl
@[simp] theorem FH74_1(l k:Nat):ah T 74 (.hp l k) 1=some (.hp l (k+1)):=rfl
@[simp] theorem FA74_2(cs:List AV):ah T 74 (.ip cs) 2=some (.ip (cs.drop 2)):=rfl
@[simp] theorem FH74_2(l k:Nat):ah T 74 (.hp l k) 2=some (.hp l (k+2)):=rfl
@[simp] theorem FA74_3(cs:List AV):ah T 74 (.ip cs) 3=some (.ip (cs.drop 3)):=rfl
@[simp] theorem FH74_3(l k:Nat):ah T 74 (.hp l k) 3=some (.hp l (k+3)):=rfl
@[simp] theorem FA76_1(cs:List AV):ah T 76 (.ip cs) 1=some (.ip (cs.drop 1)):=rfl
@[simp] theorem FH76_1(l k:Nat):ah T 76 (.hp l k) 1=some (.hp l (k+1)):=rfl
@[simp] theorem FA76_2(cs:List AV):ah T 76 (.ip cs) 2=some (.ip (cs.drop 2)):=rfl
@[simp] theorem FH76_2(l k:Nat):ah T 76 (.hp l k) 2=some (.hp l (k+2)):=rfl
@[simp] theorem FA76_3(cs:List AV):ah T 76 (.ip cs) 3=some (.ip (cs.drop 6)):=rfl
@[simp] theorem FH76_3(l k:Nat):ah T 76 (.hp l k) 3=some (.hp l (k+6)):=rfl
@[simp] theorem FA81_0(cs:List AV):ah T 81 (.ip cs) 0=some (.ip (cs.drop 0)):=rfl
@[simp] theorem FH81_0(l k:Nat):ah T 81 (.hp l k) 0=some (.hp l (k+0)):=rfl
@[simp] theorem FA81_1(cs:List AV):ah T 81 (.ip cs) 1=some (.ip (cs.drop 13)):=rfl
@[simp] theorem FH81_1(l k:Nat):ah T 81 (.hp l k) 1=some (.hp l (k+13)):=rfl
@[simp] theorem FA81_2(cs:List AV):ah T 81 (.ip cs) 2=some (.ip (cs.drop 14)):=rfl
@[simp] theorem FH81_2(l k:Nat):ah T 81 (.hp l k) 2=some (.hp l (k+14)):=rfl
@[simp] theorem FA96_0(cs:List AV):ah T 96 (.ip cs) 0=some (.ip (cs.drop 0)):=rfl
@[simp] theorem FH96_0(l k:Nat):ah T 96 (.hp l k) 0=some (.hp l (k+0)):=rfl
@[simp] theorem FA96_1(cs:List AV):ah T 96 (.ip cs) 1=some (.ip (cs.drop 1)):=rfl
@[simp] theorem FH96_1(l k:Nat):ah T 96 (.hp l k) 1=some (.hp l (k+1)):=rfl
@[simp] theorem FA106_0(cs:List AV):ah T 106 (.ip cs) 0=some (.ip (cs.drop 0)):=rfl
@[simp] theorem FH106_0(l k:Nat):ah T 106 (.hp l k) 0=some (.hp l (k+0)):=rfl
@[simp] theorem FA106_1(cs:List AV):ah T 106 (.ip cs) 1=some (.ip (cs.drop 1)):=rfl
@[simp] theorem FH106_1(l k:Nat):ah T 106 (.hp l k) 1=some (.hp l (k+1)):=rfl
@[simp] theorem FA108_0(cs:List AV):ah T 108 (.ip cs) 0=some (.ip (cs.drop 0)):=rfl
@[simp] theorem FH108_0(l k:Nat):ah T 108 (.hp l k) 0=some (.hp l (k+0)):=rfl
@[simp] theorem FA108_1(cs:List AV):ah T 108 (.ip cs) 1=some (.ip (cs.drop 1)):=rfl
@[simp] theorem FH108_1(l k:Nat):ah T 108 (.hp l k) 1=some (.hp l (k+1)):=rfl
@[simp] theorem FA108_2(cs:List AV):ah T 108 (.ip cs) 2=some (.ip (cs.drop 2)):=rfl
@[simp] theorem FH108_2(l k:Nat):ah T 108 (.hp l k) 2=some (.hp l (k+2)):=rfl
@[simp] theorem FA108_3(cs:List AV):ah T 108 (.ip cs) 3=some (.ip (cs.drop 3)):=rfl
@[simp] theorem FH108_3(l k:Nat):ah T 108 (.hp l k) 3=some (.hp l (k+3)):=rfl
@[simp] theorem FA108_4(cs:List AV):ah T 108 (.ip cs) 4=some (.ip (cs.drop 4)):=rfl
@[simp] theorem FH108_4(l k:Nat):ah T 108 (.hp l k) 4=some (.hp l (k+4)):=rfl
@[simp] theorem FA108_5(cs:List AV):ah T 108 (.ip cs) 5=some (.ip (cs.drop 5)):=rfl
@[simp] theorem FH108_5(l k:Nat):ah T 108 (.hp l k) 5=some (.hp l (k+5)):=rfl
@[simp] theorem FA110_0(cs:List AV):ah T 110 (.ip cs) 0=some (.ip (cs.drop 0)):=rfl
@[simp] theorem FH110_0(l k:Nat):ah T 110 (.hp l k) 0=some (.hp l (k+0)):=rfl
@[simp] theorem FA110_1(cs:List AV):ah T 110 (.ip cs) 1=some (.ip (cs.drop 1)):=rfl
@[simp] theorem FH110_1(l k:Nat):ah T 110 (.hp l k) 1=some (.hp l (k+1)):=rfl
@[simp] theorem FA110_2(cs:List AV):ah T 110 (.ip cs) 2=some (.ip (cs.drop 2)):=rfl
@[simp] theorem FH110_2(l k:Nat):ah T 110 (.hp l k) 2=some (.hp l (k+2)):=rfl
@[simp] theorem FA110_3(cs:List AV):ah T 110 (.ip cs) 3=some (.ip (cs.drop 3)):=rfl
@[simp] theorem FH110_3(l k:Nat):ah T 110 (.hp l k) 3=some (.hp l (k+3)):=rfl
@[simp] theorem FA110_4(cs:List AV):ah T 110 (.ip cs) 4=some (.ip (cs.drop 5)):=rfl
@[simp] theorem FH110_4(l k:Nat):ah T 110 (.hp l k) 4=some (.hp l (k+5)):=rfl
@[simp] theorem FA110_5(cs:List AV):ah T 110 (.ip cs) 5=some (.ip (cs.drop 6)):=rfl
@[simp] theorem FH110_5(l k:Nat):ah T 110 (.hp l k) 5=some (.hp l (k+6)):=rfl
@[simp] theorem FA127_0(cs:List AV):ah T 127 (.ip cs) 0=some (.ip (cs.drop 0)):=rfl
@[simp] theorem FH127_0(l k:Nat):ah T 127 (.hp l k) 0=some (.hp l (k+0)):=rfl
@[simp] theorem FA127_1(cs:List AV):ah T 127 (.ip cs) 1=some (.ip (cs.drop 1)):=rfl
@[simp] theorem FH127_1(l k:Nat):ah T 127 (.hp l k) 1=some (.hp l (k+1)):=rfl
@[simp] theorem FA127_2(cs:List AV):ah T 127 (.ip cs) 2=some (.ip (cs.drop 2)):=rfl
@[simp] theorem FH127_2(l k:Nat):ah T 127 (.hp l k) 2=some (.hp l (k+2)):=rfl
@[simp] theorem FA138_0(cs:List AV):ah T 138 (.ip cs) 0=some (.ip (cs.drop 0)):=rfl
@[simp] theorem FH138_0(l k:Nat):ah T 138 (.hp l k) 0=some (.hp l (k+0)):=rfl
@[simp] theorem FA138_1(cs:List AV):ah T 138 (.ip cs) 1=some (.ip (cs.drop 1)):=rfl
@[simp] theorem FH138_1(l k:Nat):ah T 138 (.hp l k) 1=some (.hp l (k+1)):=rfl
@[simp] theorem FA138_2(cs:List AV):ah T 138 (.ip cs) 2=some (.ip (cs.drop 2)):=rfl
@[simp] theorem FH138_2(l k:Nat):ah T 138 (.hp l k) 2=some (.hp l (k+2)):=rfl
@[simp] theorem FA138_3(cs:List AV):ah T 138 (.ip cs) 3=some (.ip (cs.drop 3)):=rfl
@[simp] theorem FH138_3(l k:Nat):ah T 138 (.hp l k) 3=some (.hp l (k+3)):=rfl
@[simp] theorem FA138_4(cs:List AV):ah T 138 (.ip cs) 4=some (.ip (cs.drop 4)):=rfl
@[simp] theorem FH138_4(l k:Nat):ah T 138 (.hp l k) 4=some (.hp l (k+4)):=rfl
@[simp] theorem FA145_0(cs:List AV):ah T 145 (.ip cs) 0=some (.ip (cs.drop 0)):=rfl
@[simp] theorem FH145_0(l k:Nat):ah T 145 (.hp l k) 0=some (.hp l (k+0)):=rfl
@[simp] theorem FA145_1(cs:List AV):ah T 145 (.ip cs) 1=some (.ip (cs.drop 1)):=rfl
@[simp] theorem FH145_1(l k:Nat):ah T 145 (.hp l k) 1=some (.hp l (k+1)):=rfl
@[simp] theorem FA145_2(cs:List AV):ah T 145 (.ip cs) 2=some (.ip (cs.drop 2)):=rfl
@[simp] theorem FH145_2(l k:Nat):ah T 145 (.hp l k) 2=some (.hp l (k+2)):=rfl
@[simp] theorem FA158_0(cs:List AV):ah T 158 (.ip cs) 0=some (.ip (cs.drop 0)):=rfl
@[simp] theorem FH158_0(l k:Nat):ah T 158 (.hp l k) 0=some (.hp l (k+0)):=rfl
@[simp] theorem FA158_1(cs:List AV):ah T 158 (.ip cs) 1=some (.ip (cs.drop 1)):=rfl
@[simp] theorem FH158_1(l k:Nat):ah T 158 (.hp l k) 1=some (.hp l (k+1)):=rfl
@[simp] theorem FA170_0(cs:List AV):ah T 170 (.ip cs) 0=some (.ip (cs.drop 0)):=rfl
@[simp] theorem FH170_0(l k:Nat):ah T 170 (.hp l k) 0=some (.hp l (k+0)):=rfl
@[simp] theorem FA170_1(cs:List AV):ah T 170 (.ip cs) 1=some (.ip (cs.drop 1)):=rfl
@[simp] theorem FH170_1(l k:Nat):ah T 170 (.hp l k) 1=some (.hp l (k+1)):=rfl
@[simp] theorem FA170_2(cs:List AV):ah T 170 (.ip cs) 2=some (.ip (cs.drop 2)):=rfl
@[simp] theorem FH170_2(l k:Nat):ah T 170 (.hp l k) 2=some (.hp l (k+2)):=rfl
@[simp] theorem FA170_3(cs:List AV):ah T 170 (.ip cs) 3=some (.ip (cs.drop 3)):=rfl
@[simp] theorem FH170_3(l k:Nat):ah T 170 (.hp l k) 3=some (.hp l (k+3)):=rfl
@[simp] theorem FA170_4(cs:List AV):ah T 170 (.ip cs) 4=some (.ip (cs.drop 4)):=rfl
@[simp] theorem FH170_4(l k:Nat):ah T 170 (.hp l k) 4=some (.hp l (k+4)):=rfl
@[simp] theorem FA183_0(cs:List AV):ah T 183 (.ip cs) 0=some (.ip (cs.drop 0)):=rfl
@[simp] theorem FH183_0(l k:Nat):ah T 183 (.hp l k) 0=some (.hp l (k+0)):=rfl
@[simp] theorem FA183_1(cs:List AV):ah T 183 (.ip cs) 1=some (.ip (cs.drop 1)):=rfl
@[simp] theorem FH183_1(l k:Nat):ah T 183 (.hp l k) 1=some (.hp l (k+1)):=rfl
@[simp] theorem FA183_2(cs:List AV):ah T 183 (.ip cs) 2=some (.ip (cs.drop 2)):=rfl
@[simp] theorem FH183_2(l k:Nat):ah T 183 (.hp l k) 2=some (.hp l (k+2)):=rfl
@[simp] theorem FA193_0(cs:List AV):ah T 193 (.ip cs) 0=some (.ip (cs.drop 0)):=rfl
@[simp] theorem FH193_0(l k:Nat):ah T 193 (.hp l k) 0=some (.hp l (k+0)):=rfl
@[simp] theorem FA193_1(cs:List AV):ah T 193 (.ip cs) 1=some (.ip (cs.drop 1)):=rfl
@[simp] theorem FH193_1(l k:Nat):ah T 193 (.hp l k) 1=some (.hp l (k+1)):=rfl
@[simp] theorem FA193_2(cs:List AV):ah T 193 (.ip cs) 2=some (.ip (cs.drop 2)):=rfl
@[simp] theorem FH193_2(l k:Nat):ah T 193 (.hp l k) 2=some (.hp l (k+2)):=rfl
@[simp] theorem FA236_0(cs:List AV):ah T 236 (.ip cs) 0=some (.ip (cs.drop 0)):=rfl
@[simp] theorem FH236_0(l k:Nat):ah T 236 (.hp l k) 0=some (.hp l (k+0)):=rfl
@[simp] theorem LD3(x:AV)(l:List AV):ax T 3 (.ip (x:: l))=some x:=rfl
@[simp] theorem LD4(x:AV)(l:List AV):ax T 4 (.ip (x:: l))=some x:=rfl
@[simp] theorem LD9(x:AV)(l:List AV):ax T 9 (.ip (x:: l))=some x:=rfl
@[simp] theorem LD22(x:AV)(l:List AV):ax T 22 (.ip (x:: l))=some x:=rfl
@[simp] theorem LD23(x:AV)(l:List AV):ax T 23 (.ip (x:: l))=some x:=rfl
@[simp] theorem LD24(x:AV)(l:List AV):ax T 24 (.ip (x:: l))=some x:=rfl
@[simp] theorem LD28(x:AV)(l:List AV):ax T 28 (.ip (x:: l))=some x:=rfl
@[simp] theorem LD29(x:AV)(l:List AV):ax T 29 (.ip (x:: l))=some x:=rfl
@[simp] theorem LD30(x:AV)(l:List AV):ax T 30 (.ip (x:: l))=some x:=rfl
@[simp] theorem LD31(x:AV)(l:List AV):ax T 31 (.ip (x:: l))=some x:=rfl
@[simp] theorem LD33(cs:List AV):ax T 33 (.ip cs)=if 4<=cs.length then some (.agg (cs.take 4))else none:=rfl
@[simp] theorem LD34(x:AV)(l:List AV):ax T 34 (.ip (x:: l))=some x:=rfl
@[simp] theorem LD35(x:AV)(l:List AV):ax T 35 (.ip (x:: l))=some x:=rfl
@[simp] theorem LD37(cs:List AV):ax T 37 (.ip cs)=if 8<=cs.length then some (.agg (cs.take 8))else none:=rfl
@[simp] theorem LD39(cs:List AV):ax T 39 (.ip cs)=if 13<=cs.length then some (.agg (cs.take 13))else none:=rfl
@[simp] theorem LD47(x:AV)(l:List AV):ax T 47 (.ip (x:: l))=some x:=rfl
@[simp] theorem LD48(x:AV)(l:List AV):ax T 48 (.ip (x:: l))=some x:=rfl
@[simp] theorem LD49(x:AV)(l:List AV):ax T 49 (.ip (x:: l))=some x:=rfl
@[simp] theorem LD53(cs:List AV):ax T 53 (.ip cs)=if 9<=cs.length then some (.agg (cs.take 9))else none:=rfl
@[simp] theorem LD58(cs:List AV):ax T 58 (.ip cs)=if 2<=cs.length then some (.agg (cs.take 2))else none:=rfl
@[simp] theorem LD62(cs:List AV):ax T 62 (.ip cs)=if 5<=cs.length then some (.agg (cs.take 5))else none:=rfl
@[simp] theorem LD72(x:AV)(l:List AV):ax T 72 (.ip (x:: l))=some x:=rfl
@[simp] theorem LD74(cs:List AV):ax T 74 (.ip cs)=if 4<=cs.length then some (.agg (cs.take 4))else none:=rfl
@[simp] theorem LD76(cs:List AV):ax T 76 (.ip cs)=if 7<=cs.length then some (.agg (cs.take 7))else none:=rfl
@[simp] theorem LD78(x:AV)(l:List AV):ax T 78 (.ip (x:: l))=some x:=rfl
@[simp] theorem LD79(x:AV)(l:List AV):ax T 79 (.ip (x:: l))=some x:=rfl
@[simp] theorem LD91(x:AV)(l:List AV):ax T 91 (.ip (x:: l))=some x:=rfl
@[simp] theorem LD94(x:AV)(l:List AV):ax T 94 (.ip (x:: l))=some x:=rfl
@[simp] theorem LD102(cs:List AV):ax T 102 (.ip cs)=if 3<=cs.length then some (.agg (cs.take 3))else none:=rfl
@[simp] theorem LD106(cs:List AV):ax T 106 (.ip cs)=if 2<=cs.length then some (.agg (cs.take 2))else none:=rfl
@[simp] theorem LD108(cs:List AV):ax T 108 (.ip cs)=if 6<=cs.length then some (.agg (cs.take 6))else none:=rfl
@[simp] theorem LD110(cs:List AV):ax T 110 (.ip cs)=if 12<=cs.length then some (.agg (cs.take 12))else none:=rfl
@[simp] theorem LD138(cs:List AV):ax T 138 (.ip cs)=if 5<=cs.length then some (.agg (cs.take 5))else none:=rfl
@[simp] theorem LD145(cs:List AV):ax T 145 (.ip cs)=if 4<=cs.length then some (.agg (cs.take 4))else none:=rfl
@[simp] theorem LD158(cs:List AV):ax T 158 (.ip cs)=if 3<=cs.length then some (.agg (cs.take 3))else none:=rfl
@[simp] theorem LD168(x:AV)(l:List AV):ax T 168 (.ip (x:: l))=some x:=rfl
@[simp] theorem LD193(cs:List AV):ax T 193 (.ip cs)=if 3<=cs.length then some (.agg (cs.take 3))else none:=rfl
@[simp] theorem LD209(cs:List AV):ax T 209 (.ip cs)=if 14<=cs.length then some (.agg (cs.take 14))else none:=rfl
@[simp] theorem LD236(cs:List AV):ax T 236 (.ip cs)=if 3<=cs.length then some (.agg (cs.take 3))else none:=rfl
@[simp] theorem Tv(s:aW):bm T 9 (.str s)=some (.int .i64 s.length):=rfl
@[simp] theorem OV(es:List AV):bm T 22 (.sl es)=some (.int .i64 es.length):=rfl
@[simp] theorem TP:bm T 22 .hn=some (.int .i64 0):=rfl
@[simp] theorem TA(l k n s:Nat)(a:Bool):bm T 22 (.hs l k n s a)=some (.int .i64 n):=rfl
@[simp] theorem F8(l:List Mod):bm T 22 (mods l)=some (.int .i64 l.length):=(OV _).trans ZO
@[simp] theorem OW(es:List AV):bm T 23 (.sl es)=some (.int .i64 es.length):=rfl
@[simp] theorem TR:bm T 23 .hn=some (.int .i64 0):=rfl
@[simp] theorem TB(l k n s:Nat)(a:Bool):bm T 23 (.hs l k n s a)=some (.int .i64 n):=rfl
@[simp] theorem qy(l:List Val):bm T 23 (vals l)=some (.int .i64 l.length):=(OW _).trans (by simp[dS])
@[simp] theorem OX(es:List AV):bm T 24 (.sl es)=some (.int .i64 es.length):=rfl
@[simp] theorem TS:bm T 24 .hn=some (.int .i64 0):=rfl
@[simp] theorem TC(l k n s:Nat)(a:Bool):bm T 24 (.hs l k n s a)=some (.int .i64 n):=rfl
@[simp] theorem m8(l:List Int):bm T 24 (ints l)=some (.int .i64 l.length):=(OX _).trans ZO
@[simp] theorem OY(es:List AV):bm T 28 (.sl es)=some (.int .i64 es.length):=rfl
@[simp] theorem TU:bm T 28 .hn=some (.int .i64 0):=rfl
@[simp] theorem TD(l k n s:Nat)(a:Bool):bm T 28 (.hs l k n s a)=some (.int .i64 n):=rfl
@[simp] theorem Tw(l:List Vars):bm T 28 (br l)=some (.int .i64 l.length):=(OY _).trans ZO
@[simp] theorem V0(es:List AV):bm T 29 (.sl es)=some (.int .i64 es.length):=rfl
@[simp] theorem TV:bm T 29 .hn=some (.int .i64 0):=rfl
@[simp] theorem TE(l k n s:Nat)(a:Bool):bm T 29 (.hs l k n s a)=some (.int .i64 n):=rfl
@[simp] theorem OZ(es:List AV):bm T 31 (.sl es)=some (.int .i64 es.length):=rfl
@[simp] theorem TW:bm T 31 .hn=some (.int .i64 0):=rfl
@[simp] theorem TF(l k n s:Nat)(a:Bool):bm T 31 (.hs l k n s a)=some (.int .i64 n):=rfl
@[simp] theorem gW(l:List aW):bm T 31 (strs l)=some (.int .i64 l.length):=(OZ _).trans ZO
@[simp] theorem O0(es:List AV):bm T 34 (.sl es)=some (.int .i64 es.length):=rfl
@[simp] theorem TX:bm T 34 .hn=some (.int .i64 0):=rfl
@[simp] theorem TG(l k n s:Nat)(a:Bool):bm T 34 (.hs l k n s a)=some (.int .i64 n):=rfl
@[simp] theorem Tx(l:List Deed):bm T 34 (deeds l)=some (.int .i64 l.length):=(O0 _).trans ZO
@[simp] theorem O1(es:List AV):bm T 35 (.sl es)=some (.int .i64 es.length):=rfl
@[simp] theorem TY:bm T 35 .hn=some (.int .i64 0):=rfl
@[simp] theorem TH(l k n s:Nat)(a:Bool):bm T 35 (.hs l k n s a)=some (.int .i64 n):=rfl
@[simp] theorem Tz(l:List Ap.Call):bm T 35 (Ap.calls l)=some (.int .i64 l.length):=(O1 _).trans ZO
@[simp] theorem O2(es:List AV):bm T 47 (.sl es)=some (.int .i64 es.length):=rfl
@[simp] theorem TZ:bm T 47 .hn=some (.int .i64 0):=rfl
@[simp] theorem TJ(l k n s:Nat)(a:Bool):bm T 47 (.hs l k n s a)=some (.int .i64 n):=rfl
@[simp] theorem mc(l:List fu):bm T 47 (bR l)=some (.int .i64 l.length):=(O2 _).trans (by simp[kC])
@[simp] theorem O3(es:List AV):bm T 48 (.sl es)=some (.int .i64 es.length):=rfl
@[simp] theorem T0:bm T 48 .hn=some (.int .i64 0):=rfl
@[simp] theorem TL(l k n s:Nat)(a:Bool):bm T 48 (.hs l k n s a)=some (.int .i64 n):=rfl
@[simp] theorem oP(l:List Exp):bm T 48 (df l)=some (.int .i64 l.length):=(O3 _).trans (by simp[kA])
@[simp] theorem O4(es:List AV):bm T 49 (.sl es)=some (.int .i64 es.length):=rfl
@[simp] theorem T4:bm T 49 .hn=some (.int .i64 0):=rfl
@[simp] theorem TM(l k n s:Nat)(a:Bool):bm T 49 (.hs l k n s a)=some (.int .i64 n):=rfl
@[simp] theorem Bv(l:List Fun):bm T 49 (iN l)=some (.int .i64 l.length):=(O4 _).trans ZO
@[simp] theorem V4(es:List AV):bm T 72 (.sl es)=some (.int .i64 es.length):=rfl
@[simp] theorem T7:bm T 72 .hn=some (.int .i64 0):=rfl
@[simp] theorem TN(l k n s:Nat)(a:Bool):bm T 72 (.hs l k n s a)=some (.int .i64 n):=rfl
@[simp] theorem V5(es:List AV):bm T 91 (.sl es)=some (.int .i64 es.length):=rfl
@[simp] theorem T8:bm T 91 .hn=some (.int .i64 0):=rfl
@[simp] theorem TO(l k n s:Nat)(a:Bool):bm T 91 (.hs l k n s a)=some (.int .i64 n):=rfl
@[simp] theorem Tt(es:List AV):bm T 116 (.sl es)=some (.int .i64 es.length):=rfl
@[simp] theorem SZ:bm T 116 .hn=some (.int .i64 0):=rfl
@[simp] theorem SX(l k n s:Nat)(a:Bool):bm T 116 (.hs l k n s a)=some (.int .i64 n):=rfl
@[simp] theorem Tu(es:List AV):bm T 237 (.sl es)=some (.int .i64 es.length):=rfl
@[simp] theorem S0:bm T 237 .hn=some (.int .i64 0):=rfl
@[simp] theorem SY(l k n s:Nat)(a:Bool):bm T 237 (.hs l k n s a)=some (.int .i64 n):=rfl
def Ep{l:List Mod}{n:Int}(h0:0<=n)(h:n<(l.length:Int)):aA T 22 (mods l) (.int .i64 n)=some (.ip (aa (Mod.av l[n.toNat]!))):=bp (T:=T) (t:=22) (e:=53) rfl rfl rfl (fun _=>by first|rfl|(simp;done)|(simp;rfl)) h0 h
def sY{l:List Val}{n:Int}(h0:0<=n)(h:n<(l.length:Int)):aA T 23 (vals l) (.int .i64 n)=some (.ip (aa (Val.av l[n.toNat]!))):=by rw[vals,dS];exact bp (T:=T) (t:=23) (e:=33) rfl rfl rfl (fun _=>by first|rfl|(simp;done)|(simp;rfl)) h0 h
def I6{l:List Int}{n:Int}(h0:0<=n)(h:n<(l.length:Int)):aA T 24 (ints l) (.int .i64 n)=some (.ip (aa (AV.int .i64 l[n.toNat]!))):=bp (T:=T) (t:=24) (e:=3) rfl rfl rfl (fun _=>by first|rfl|(simp;done)|(simp;rfl)) h0 h
def oO{l:List aW}{n:Int}(h0:0<=n)(h:n<(l.length:Int)):aA T 31 (strs l) (.int .i64 n)=some (.ip (aa (AV.str l[n.toNat]!))):=bp (T:=T) (t:=31) (e:=9) rfl rfl rfl (fun _=>by first|rfl|(simp;done)|(simp;rfl)) h0 h
def Tr{l:List Deed}{n:Int}(h0:0<=n)(h:n<(l.length:Int)):aA T 34 (deeds l) (.int .i64 n)=some (.ip (aa (Deed.av l[n.toNat]!))):=bp (T:=T) (t:=34) (e:=102) rfl rfl rfl (fun _=>by first|rfl|(simp;done)|(simp;rfl)) h0 h
def Ts{l:List Ap.Call}{n:Int}(h0:0<=n)(h:n<(l.length:Int)):aA T 35 (Ap.calls l) (.int .i64 n)=some (.ip (aa (Ap.Call.av l[n.toNat]!))):=bp (T:=T) (t:=35) (e:=127) rfl rfl rfl (fun _=>by first|rfl|(simp;done)|(simp;rfl)) h0 h
def vH{l:List fu}{n:Int}(h0:0<=n)(h:n<(l.length:Int)):aA T 47 (bR l) (.int .i64 n)=some (.ip (aa (dU l[n.toNat]!))):=by rw[bR,kC];exact bp (T:=T) (t:=47) (e:=158) rfl rfl rfl (fun _=>by first|rfl|(simp;done)|(simp;rfl)) h0 h
theorem m7{l:List Exp}{n:Int}(h0:0<=n)(h:n<(l.length:Int)):aA T 48 (df l) (.int .i64 n)=some (.ip (aa (Exp.av l[n.toNat]!))):=by rw[df,kA];exact bp (T:=T) (t:=48) (e:=108) rfl rfl rfl (fun _=>by first|rfl|(simp;done)|(simp;rfl)) h0 h
theorem Bu{l:List Fun}{n:Int}(h0:0<=n)(h:n<(l.length:Int)):aA T 49 (iN l) (.int .i64 n)=some (.ip (aa (Fun.av l[n.toNat]!))):=bp (T:=T) (t:=49) (e:=110) rfl rfl rfl (fun _=>by first|rfl|(simp;done)|(simp;rfl)) h0 h
def I4{a b:List Val}(h:(a.length+b.length)*64<=140737488355328):dG T 23 (vals a) (vals b)=some (vals (a++b)):=by
 have:=lG (T:=T) (t:=23) (e:=33) rfl rfl rfl (f:=Val.av) (fun _=>by first|rfl|(simp;done)|(simp;rfl)) (a:=a) (b:=b) h ZM
 simpa [vals,dS]using this
def OQ{a b:List Int}(h:(a.length+b.length)*8<=140737488355328):dG T 24 (ints a) (ints b)=some (ints (a++b)):=by
 have:=lG (T:=T) (t:=24) (e:=3) rfl rfl rfl (f:=AV.int .i64) (fun _=>by first|rfl|(simp;done)|(simp;rfl)) (a:=a) (b:=b) h ZM
 simpa [ints]using this
def To{a b:List Vars}(h:(a.length+b.length)*40<=140737488355328):dG T 28 (br a) (br b)=some (br (a++b)):=by
 have:=lG (T:=T) (t:=28) (e:=58) rfl rfl rfl (f:=Vars.av) (fun _=>by first|rfl|(simp;done)|(simp;rfl)) (a:=a) (b:=b) h ZM
 simpa [br]using this
def I5{a b:List aW}(h:(a.length+b.length)*16<=140737488355328):dG T 31 (strs a) (strs b)=some (strs (a++b)):=by
 have:=lG (T:=T) (t:=31) (e:=9) rfl rfl rfl (f:=AV.str) (fun _=>by first|rfl|(simp;done)|(simp;rfl)) (a:=a) (b:=b) h ZM
 simpa [strs]using this
@[simp] theorem QH(t:Nat)(a b:Int):cz T .geq t (.int .u8 a) (.int .u8 b)=some (.bool (decide (b<=a))):=rfl
@[simp] theorem QI(t:Nat)(a b:Int):cz T .leq t (.int .u8 a) (.int .u8 b)=some (.bool (decide (a<=b))):=rfl
@[simp] theorem Tm(t:Nat)(a b:aW):cz T .leq t (.str a) (.str b)=some (.bool (bY a b||a== b)):=rfl
def JY(f:AV)(F:fu->Bool)(l:List fu)(hb:l.length<=4611686018427387904)(hf:∀x∈l,cS (af pg) f [dU x]=am (.bool (F x))):∀(n:Nat)(i:Int),l.length-i.toNat=n->0<=i->i<=l.length->
  ak (L181_0 (af pg) ak) [bR l,f,.int .i64 l.length,.int .i64 i]=am (.int .i64 (aY F (l.drop i.toNat) i)):=by
 intro n
 induction n with
 |zero=>
  intro i hn hi hl;rw[FL181_0];simp only[L181_0];have h1:¬(i<(l.length:Int)):=ZL
  have h2:l.drop i.toNat=[]:=List.drop_eq_nil_of_le ZL;simp[h1,h2,aY]
 |succ n ih=>
  intro i hn hi hl;have h1:i<(l.length:Int):=ZL
  have hlt:i.toNat<l.length:=ZL
  have h2:aY F (l.drop i.toNat) i=if F l[i.toNat]=true then i else aY F (l.drop (i.toNat+1)) (i+1):=by rw[List.drop_eq_getElem_cons hlt];rfl
  have h3:=hf l[i.toNat] (XB hlt);have h4:=ih (i+1) ZL ZL ZL;rw[show (i+1).toNat=i.toNat+1 by omega]at h4;rw[FL181_0];simp only[L181_0];simp (disch:=omega) [h1,aS,vH,h3,h2];simp_all
def t181(f:AV)(F:fu->Bool)(l:List fu)(hb:l.length<=4611686018427387904)(hc:∀g,cl g f=f)(hf:∀x∈l,cS (af pg) f [dU x]=am (.bool (F x))):af pg 181 [bR l,f]=am (.int .i64 (aY F l 0)):=by
 rw[C181];simp[S181,hc,JY f F l hb hf l.length 0 rfl ZL ZL]
def t125(b:UInt8):af pg 125 [.int .u8 b.toNat]=am (.bool (sR b)):=by
 rw[C125];have e:decide ((b.toNat:Int)<=122)=decide (b.toNat<=122):=Yn.2 ZL;have e2:decide (97<=(b.toNat:Int))=decide (97<=b.toNat):=Yn.2 ZL;simp[S125,sR,e,e2]
def t127(b:UInt8):af pg 127 [.int .u8 b.toNat]=am (.bool (B5 b)):=by
 rw[C127];have e:decide ((b.toNat:Int)<=57)=decide (b.toNat<=57):=Yn.2 ZL;have e2:decide (48<=(b.toNat:Int))=decide (48<=b.toNat):=Yn.2 ZL;simp[S127,B5,e,e2]
def t170(b:UInt8):af pg 170 [.int .u8 b.toNat]=am (.bool (tb b)):=by
 simp_all[C170,S170,t125,t127,tb]
theorem KS{s:aW}{i:Nat}(h:i<s.length):i6 T 9 (.str s) (.int .i64 (i:Int))=some (.int .u8 (s[i].toNat:Int)):=by
 have e1:i6 T 9 (.str s) (.int .i64 (i:Int))=(if(i:Int)<0 then none else s[(i:Int).toNat]?.map fun b=>.int .u8 b.toNat):=rfl
 grind
def NO(F:UInt8->Bool)(f:AV)(s:aW)(hb:s.length<=4611686018427387904)(hf:∀b:UInt8,cS (af pg) f [.int .u8 b.toNat]=am (.bool (F b))):∀(n i:Nat),s.length-i=n->i<=s.length->
  ak (L62_0 (af pg) ak) [.str s,f,.int .i64 i]=am (.int .i64 ((i+((s.drop i).takeWhile F).length:Nat):Int)):=by
 intro n
 induction n with
 |zero=>
  intro i hn hi;rw[FL62_0];simp only[L62_0];have h1:¬((i:Int)<(s.length:Int)):=ZL
  have h2:s.drop i=[]:=List.drop_eq_nil_of_le ZL;simp[h1,h2]
 | succ n ih=>
  intro i hn hi;have hlt:i<s.length:=ZL
  have h1:(i:Int)<(s.length:Int):=ZL
  have h2:s.drop i=s[i]:: s.drop (i+1):=List.drop_eq_getElem_cons hlt;have h4:=ih (i+1) ZL ZL;have hw:IntKind.i64.wrap ((i:Int)+1)=((i+1:Nat):Int):=aV ZL;rw[FL62_0];simp only[L62_0,ao,au,Tv,ae,aB,h1,XP,bn,KS hlt,hf,aj,cw,ai,bj,hw,h4,h2,List.takeWhile_cons];cases F s[i]
  ·simp
  ·rw[Xr rfl,Xr rfl];congr 3
   grind
def t128(s:aW):af pg 128 [.str s]=am (.bool (sB s)):=by
 rw[C128];by_cases hs:s=[]
 ·subst hs;simp[S128,sB]
 ·have hs':(s== [])=false:=YT.2 hs;have hpos:0<s.length:=Yl.2 hs;have h0:=KS (s:=s) (i:=0) hpos;have hd:s[0]=s.headD 0:=by cases s with|nil=>grind|cons c s=>rfl
  rw[hd]at h0;simp at h0;by_cases hl:s.length<=20
  ·have h1:=NO tb (.fn (.func 170) [] []) s ZL (fun b=>t170 b) s.length 0 ZO ZO;have hsp:af pg 62 [.str s,.fn (.func 170) [] []]=am (.int .i64 (((s.takeWhile tb).length:Nat):Int)):=by
    rw[C62];simp only[S62,cl,fl];rw[show (AV.int .i64 0)=AV.int .i64 ((0:Nat):Int)from rfl,h1];simp
   have e1:decide (20<(s.length:Int))=false:=by rw[XX];omega
   have e3:decide (20<s.length)=false:=by rw[XX];omega
   have e4:decide (s.length<=20)=true:=by simpa using hl
   simp[S128,hs',h0,t125,hsp,e1,e3,e4,sB]
  ·have e1:decide (20<(s.length:Int))=true:=by rw[Xp];omega
   have e3:decide (20<s.length)=true:=by rw[Xp];omega
   have e4:decide (s.length<=20)=false:=by simpa using hl
   simp[S128,hs',h0,t125,e1,e3,e4,sB]
def t149(s:aW):af pg 149 [.str oe,.str s]=am (.bool (Lib.contains oe s)):=by
 rw[d8 gZ (E:=lI) rfl];rfl
theorem El(t:Nat)(a b:aW):cz T .add t (.str a) (.str b)=if a.length+b.length<=4611686018427387904 then some (.str (a++b))else none:=rfl
def t92(s:aW):af pg 92 [.str s]=am (.bool (cr s)):=by
 rw[C92];have h1:=t128 s;unfold cr;cases hw:sB s with
 |false=>
  rw[hw]at h1;simp[S92,h1]
 |true=>
  have hl:=FS hw;rw[hw]at h1;have h2:=t149 ([32]++s++[32]);unfold oe at h2;have e1:cz T .add 9 (.str [32]) (.str s)=some (.str ([32]++s)):=by rw[El,Xr ZQ]
  have e2:cz T .add 9 (.str ([32]++s)) (.str [32])=some (.str ([32]++s++[32])):=by rw[El,Xr ZQ]
  simp only[S92,MZ,h1,aj,bn,e1,ae,e2,h2,bc,ao,cw,fS,Yr];rfl
def JR{t:Ty}(h:t.Lim)(k:Nat)(hk:k<t.fields.length):(t.fields[k]!).2.Lim:=by
 rw[Xv t.fields k hk];exact h.kid (XB hk)
theorem t150:∀(d:Nat),d<=4->∀(t:Ty),t.Lim->af pg 150 [t.av,.int .i64 d]=am (.bool (gK d t))
 |0,_,t,_=>by
  rw[C150];simp[S150,gK]
 | d + 1,hd,t,ht=>by
  have ih:=t150 d ZL;have hlen:=ht.len;have hd1:IntKind.i64.wrap ((((d+1:Nat)):Int)-1)=(d:Int):=xG ZL;have hloop:=pN (F:=L150_0 (af pg) ak) (FL150_0 (af pg)) (fun k=>[.int .i64 ((d+1:Nat):Int),.ip (aa t.av),bR t.fields,.int .i64 t.fields.length,.int .i64 k]) t.fields.length
   (fun k=>(cr (t.fields[k]!).1&&gK d (t.fields[k]!).2)&&(decide (k=0)||eE (t.fields[k-1]!).1 (t.fields[k]!).1))
   (by simp[L150_0]) (fun k hk=>by
    have h1:(k:Int)<(t.fields.length:Int):=ZL
    have hix:=vH (l:=t.fields) (n:=(k:Int)) ZL h1;rw[Xw]at hix;have hm:t.fields[k]! ∈t.fields:=by rw[Xv t.fields k hk];exact XB hk
    have h2:=t92 (t.fields[k]!).1;have h3:=ih (t.fields[k]!).2 (JR ht k hk);have hw:IntKind.i64.wrap ((k:Int)+1)=(k:Int)+1:=by rw[aV ZL];simp
    have hd0:IntKind.i64.wrap (d:Int)=(d:Int):=IQ ZL;generalize t.fields[k]! = f at hix h2 h3 hm |-;rcases Ya k with hk0|hk0
    ·subst hk0;have hix0:aA T 47 (bR t.fields) (.int .i64 0)=some (.ip (aa (dU f))):=hix;have hw0:IntKind.i64.wrap 1=1:=rfl;simp[L150_0,hix0,h2,h3,hw0,hd0,hk];cases cr f.1<;>cases gK d f.2<;>simp
    ·have hp:IntKind.i64.wrap ((k:Int)-1)=((k-1:Nat):Int):=by
      rw[aS ZL ZL];omega
     have h4:((k-1:Nat):Int)<(t.fields.length:Int):=ZL
     have hix2:=vH (l:=t.fields) (n:=((k-1:Nat):Int)) ZL h4;rw[Xw]at hix2;generalize t.fields[k-1]! = g at hix2 |-;have hk1:¬k=0:=ZL
     simp[L150_0,h1,hix,h2,h3,hw,hd0,hp,hix2,hk0,hk1,hk];cases cr f.1<;>simp
     grind [eE]) 0 (XJ _)
  have hall:((List.range' 0 t.fields.length).all fun k=>(cr (t.fields[k]!).1&&gK d (t.fields[k]!).2)&&(decide (k=0)||eE (t.fields[k-1]!).1 (t.fields[k]!).1))=(t.fields.all (fun f=>cr f.1&&gK d f.2)&&oR (fun a b=>eE a.1 b.1) t.fields):=
   xQ (fun f:fu=>cr f.1&&gK d f.2) (fun a b=>eE a.1 b.1) t.fields
  rw[Y2,hall]at hloop;rw[C150];have h0:¬((d:Int)+1=0):=ZL
  have hl2:ak (L150_0 (af pg) ak) [.int .i64 ((d:Int)+1),.ip [.int .i64 t.kind,bR t.fields],bR t.fields,.int .i64 t.fields.length,.int .i64 0]=am (.bool (t.fields.all (fun f=>cr f.1&&gK d f.2)&&oR (fun a b=>eE a.1 b.1) t.fields)):=by
   simpa using hloop
  have hR:gK (d+1) t=if((t.kind<0\/3<=t.kind)\/8<(t.fields.length:Int))\/¬t.kind=2/\0<t.fields.length then false else(t.fields.all (fun f=>cr f.1&&gK d f.2)&&oR (fun a b=>eE a.1 b.1) t.fields):=by
   rw[AZ];generalize (t.fields.all (fun f=>cr f.1&&gK d f.2)&&oR (fun a b=>eE a.1 b.1) t.fields)=q;generalize t.fields.length=n;generalize t.kind=k;split
   ·grind
   ·grind
  rw[hR];simp[S150,h0,hl2]
def t94(t:Ty)(ht:t.Lim):af pg 94 [t.av]=am (.bool (jO t)):=by
 rw[C94];have:af pg 150 [t.av,.int .i64 4]=am (.bool (gK 4 t)):=t150 4 ZL t ht;simp[S94,this]
@[simp] theorem MM(t:Nat)(a b:Int):cz T .andNot t (.int .i64 a) (.int .i64 b)=some (.int .i64 (mz a b)):=rfl
def aQ{α β:Type}{m:M α}{a:α}{h h':Hp}(e:m h= .ok a h')(f:α->M β):ar m f h=f a h':=by simp only[ar,e]
def lT{h:Hp}{l:Nat}{cs:List AV}(H:h[l]? = some cs):l<h.length:=by
 grind
theorem JI(i:Ins):(aa i.av).length=5:=rfl
def CX(h:Hp)(l:Nat)(c:List Ins)(x:AV):Prop:=(c=[]/\x= .hn)\/(c≠[]/\∃lb,l<lb/\x= .hs lb 0 c.length 5 true/\h[lb]? = some (rowOf Ins.av c))
def CS(h:Hp)(l:Nat)(vars:List fu)(c:jS):Prop:=∃x,h[l]? = some [bR vars,x,.int .i64 c.2]/\CX h l c.1 x
def sE(l:Nat)(h h':Hp):Prop:=∀i,i<l->h'[i]? = h[i]?
def sE.refl(l:Nat)(h:Hp):sE l h h:=fun _ _=>rfl
def sE.trans{l:Nat}{h h1 h2:Hp}(a:sE l h h1)(b:sE l h1 h2):sE l h h2:=fun i hi=>(b i hi).trans (a i hi)
def sE.set{l k:Nat}{h:Hp}{r:List AV}(hk:l<=k):sE l h (h.set k r):=fun i hi=>ZN
def sE.app{l:Nat}{h t:Hp}(hl:l<=h.length):sE l h (h++t):=fun i hi=>ZN
theorem HL(l:Nat):ke (.hp l 0)=some (.hp l 0):=rfl
theorem fC0(l:Nat):ah T 183 (.hp l 0) 0=some (.hp l 0):=rfl
theorem fC1(l:Nat):ah T 183 (.hp l 0) 1=some (.hp l 1):=rfl
theorem fC2(l:Nat):ah T 183 (.hp l 0) 2=some (.hp l 2):=rfl
def CX.len{h:Hp}{l:Nat}{c:List Ins}{x:AV}(H:CX h l c x):bm T 72 x=some (.int .i64 c.length):=by
 rcases H with⟨rfl,rfl⟩|⟨_,lb,_,rfl,_⟩<;>rfl
def mG{h:Hp}{l:Nat}{a x n:AV}(H:h[l]? = some [a,x,n]):bb T 72 (.hp l 1) h= .ok x h:=yt (T:=T) (t:=72) rfl rfl H rfl
def JO{h:Hp}{l:Nat}{a x n:AV}(H:h[l]? = some [a,x,n]):bb T 47 (.hp l 0) h= .ok a h:=yt (T:=T) (t:=47) rfl rfl H rfl
def Hw{h:Hp}{l:Nat}{a x n:AV}(H:h[l]? = some [a,x,n]):bb T 3 (.hp l 2) h= .ok n h:=yt (T:=T) (t:=3) rfl rfl H rfl
theorem t98{h:Hp}{l:Nat}{vars:List fu}{c:jS}(H:CS h l vars c)(i:Ins)(hb:c.1.length<=100000000000):
  ∃h',af pg 98 [.hp l 0,i.av] h= .ok (.int .i64 c.1.length) h'/\CS h' l vars (gE i c)/\sE l h h':=by
 obtain⟨x,hl,hx⟩:=H;have hlt:=lT hl;have hap:∃h1,appH T 72 false x (.sl [i.av]) h= .ok (.hs h.length 0 (c.1.length+1) 5 true) h1/\h1[h.length]? = some (rowOf Ins.av (c.1++[i]))/\h1[l]? = h[l]? /\sE l h h1/\h.length<h1.length:=by
  have hr:rowOf Ins.av (c.1++[i])=rowOf Ins.av c.1++aa i.av:=by simp[rowOf]
  rcases hx with⟨h1,rfl⟩|⟨h1,lb,hlb,rfl,hq⟩
  ·refine⟨h++[aa i.av],?_,?_,?_,sE.app ZL,ZO⟩
   ·rw[h1];exact QE (T:=T) (t:=72) (e:=138) rfl rfl rfl (x:=i.av) rfl ZM ZM ZM h
   all_goals grind [rowOf]
  ·have hln:=og (f:=Ins.av) JI c.1;have hok:(rowOf Ins.av c.1).all ay=true:=by
    rw[XF];intro y hy;simp only[rowOf,List.mem_flatMap,YK]at hy;obtain⟨_,⟨j,_,rfl⟩,hy⟩:=hy;have:y∈j.cells:=hy;simp only[Ins.cells,XZ,List.not_mem_nil,or_false]at this;rcases this with rfl|rfl|rfl|rfl|rfl<;>rfl
   refine⟨(h.set lb [])++[rowOf Ins.av c.1++aa i.av],?_,?_,?_,?_,ZO⟩
   ·exact QF (T:=T) (t:=72) (e:=138) rfl rfl rfl (x:=i.av) rfl ZM ZM hq hok hln (Yl.2 h1) ZN
   ·grind
   ·grind
   ·exact (sE.set ZL).trans (sE.app ZQ)
 obtain⟨h1,e1,r1,r2,lo,hlen⟩:=hap;rw[hl]at r2;have st:bU T 72 (.hp l 1) (.hs h.length 0 (c.1.length+1) 5 true) h1= .ok (.tup []) (h1.set l [bR vars,.hs h.length 0 (c.1.length+1) 5 true,.int .i64 c.2]):=
  sV (T:=T) (t:=72) rfl (v:=.hs h.length 0 (c.1.length+1) 5 true) r2 rfl (show 1+1<=3 by omega) ZM
 have hl2:(h1.set l [bR vars,.hs h.length 0 (c.1.length+1) 5 true,.int .i64 c.2])[l]? = some [bR vars,.hs h.length 0 (c.1.length+1) 5 true,.int .i64 c.2]:=by
  rw[Ys,Xr rfl,Xr ZL]
 refine⟨_,?_,⟨_,hl2,.inr ⟨by simp[gE],h.length,ZL,by simp[gE],?_⟩⟩,lo.trans (sE.set (Xt _))⟩
 ·have ld0:ax T 138 (.ip (aa i.av))=some i.av:=rfl;have bs:aP T 72 1 [(0,i.av)]=some (.sl [i.av]):=rfl;have ln:bm T 72 (.hs h.length 0 (c.1.length+1) 5 true)=some (.int .i64 ((c.1.length+1:Nat):Int)):=rfl;have hw:IntKind.i64.wrap (((c.1.length+1:Nat):Int)-1)=c.1.length:=by rw[aS ZL ZL];omega
  rw[C98];simp only[S98,HL,ae,fC1];rw[aQ (mG hl)];simp only[ld0,bs,ae];rw[aQ e1,aQ st,aQ (mG hl2)];simp only[ln,ae,fF,hw];rfl
 ·rw[Ys,Xn ZL];exact r1
theorem DT(names:List aW)(s:aW)(hb:names.length<=1000000):∀n:Nat,n<=names.length->
  ak (L153_0 (af pg) ak) [strs names,.str s,.int .i64 ((n:Int)-1)]=am (.int .i64 (ul names s n))
 |0,_=>by
  rw[FL153_0];simp[L153_0,ul]
 |n+1,h=>by
  have ih:=DT names s hb n ZL;have hix:=oO (l:=names) (n:=(n:Int)) ZL ZL;have e:(((n+1:Nat):Int)-1)=n:=ZL
  have hw:IntKind.i64.wrap ((n:Int)-1)=n-1:=aS ZL ZL;have hg:names[n]? = some names[n]!:=by rw[Xv names n ZL];exact XC ZL
  rw[FL153_0,e];simp only[Xw]at hix;have hd:decide ((0:Int)<=(n:Int))=true:=XU ZL;simp only[L153_0,ao,au,jl,ae,ai,hd,XA,hix];simp only[ul,hg,Xm];by_cases hn:names[n]! = s
  ·simp[hn]
  ·simp[hn,hw,ih]
def t153(names:List aW)(s:aW)(hb:names.length<=1000000):af pg 153 [strs names,.str s]=am (.int .i64 (DO names s)):=by
 have h:=DT names s hb names.length (Xt _);have hw:IntKind.i64.wrap ((names.length:Int)-1)=names.length-1:=aS ZL ZL;rw[C153];simp[S153,hw,h,DO]
def t182(x:fu)(s:aW):af pg 182 [dU x,.ip (aa (.str s))]=am (.bool (x.1== s)):=by
 rw[C182];simp[S182,cl,fl]
def t154{h:Hp}{l:Nat}{vars:List fu}{c:jS}(H:CS h l vars c)(s:aW)(hb:vars.length<=1000000):af pg 154 [.hp l 0,.str s] h= .ok (.int .i64 (KA vars s)) h:=by
 obtain⟨x,hl,hx⟩:=H;have hi:=t181 (.fn (.func 182) [] [.ip (aa (.str s))]) (fun f=>f.1== s) vars ZL (fun g=>by simp[cl,fl]) (fun x _=>t182 x s);rw[C154];simp only[S154,HL,ae,fC0];rw[aQ (JO hl),hi];rfl
def t119(l:List aW)(h:l.length<=8796093022208):af pg 119 [strs l]=am (strs l):=by
 have e:af pg 119 [strs l]=ep T 31 (af pg) [strs l]:=d8 gZ rfl _;rw[e];show bP (dG T 31 (.sl []) (strs l))=_
 have:=I5 (a:=[]) (b:=l) ZQ
 simp only[XW]at this;show bP (dG T 31 (strs []) (strs l))=_;rw[this];rfl
theorem t152(n:Int):af pg 152 [.int .i64 n]=am (lD n).av:=by
 have hb:cE T false 108 [(0,.int .i64 1),(1,.int .i64 n)]=some (lD n).av:=rfl;rw[C152];simp[S152,hb]
def vY{A R c:List AV}{off:Nat}(h:off+c.length<=A.length):setCells (A++R) off c=setCells A off c++R:=by
 grind [setCells]
def uX{A R c:List AV}{o:Nat}:setCells (A++R) (A.length+o) c=A++setCells R o c:=by
 simp_all[setCells,List.take_length_add_append,Nat.add_assoc]
theorem ql{α:Type}{f:α->AV}{sz:Nat}(hs:∀x,(aa (f x)).length=sz){y:α}{off:Nat}{c:List AV}(hoff:off+c.length<=sz):∀(l:List α)(k:Nat)(hk:k<l.length),setCells (aa (f l[k])) off c=aa (f y)->setCells (rowOf f l) (k*sz+off) c=rowOf f (l.set k y)
 |x:: l,0,_,h=>by
  simp_all[je,vY]
 |x:: l,k+1,hk,h=>by
  have e:(k+1)*sz+off=(aa (f x)).length+(k*sz+off):=by rw[hs,Nat.succ_mul];omega
  rw[je,e,uX,ql hs hoff l k (by simpa using hk) (by simpa using h),List.set_cons_succ,je]
section
variable (e:Exp)
theorem fE0:ah T 108 (.ip (aa e.av)) 0=some (.ip ((aa e.av).drop 0)):=rfl
theorem fE1:ah T 108 (.ip (aa e.av)) 1=some (.ip ((aa e.av).drop 1)):=rfl
theorem fE2:ah T 108 (.ip (aa e.av)) 2=some (.ip ((aa e.av).drop 2)):=rfl
theorem fE3:ah T 108 (.ip (aa e.av)) 3=some (.ip ((aa e.av).drop 3)):=rfl
theorem fE4:ah T 108 (.ip (aa e.av)) 4=some (.ip ((aa e.av).drop 4)):=rfl
theorem fE5:ah T 108 (.ip (aa e.av)) 5=some (.ip ((aa e.av).drop 5)):=rfl
theorem Wj:ax T 3 (.ip ((aa e.av).drop 0))=some (.int .i64 e.op):=ZP
theorem Vr:ax T 3 (.ip ((aa e.av).drop 1))=some (.int .i64 e.n):=ZP
theorem Oz:ax T 9 (.ip ((aa e.av).drop 2))=some (.str e.s):=ZP
theorem WP:ax T 9 (.ip ((aa e.av).drop 3))=some (.str e.m):=ZP
theorem WQ:ax T 31 (.ip ((aa e.av).drop 4))=some (strs e.names):=ZP
theorem NC:ax T 48 (.ip ((aa e.av).drop 5))=some (df e.args):=ZP
theorem Ho:ax T 108 (.ip (aa e.av))=some e.av:=by
 simp_all
end
theorem kQ(t:Nat)(a b:Int):cz T .eql t (.int .i64 a) (.int .i64 b)=some (.bool (decide (a=b))):=rfl
theorem KH(a:Int):cE T false 138 [(0,.int .i64 a)]=some (cB a 0).av:=rfl
theorem MJ(a n:Int):cE T false 138 [(0,.int .i64 a),(1,.int .i64 n)]=some (cB a n).av:=rfl
theorem WE(a:Int)(l:List aW):cE T false 138 [(0,.int .i64 a),(4,strs l)]=some (Ins.mk a 0 [] [] l).av:=rfl
theorem WF(a:Int)(s:aW):cE T false 138 [(0,.int .i64 a),(2,.str s)]=some (Ins.mk a 0 s [] []).av:=rfl
theorem WG(a n:Int)(s m:aW):cE T false 138 [(0,.int .i64 a),(2,.str s),(3,.str m),(1,.int .i64 n)]=some (Ins.mk a n s m []).av:=rfl
theorem GC{β:Type}(i:Ins)(f:AV->M β):ar (bF 5 [] i.av) f=f i.av:=rfl
def Sj(l:List Exp):bm T 48 (df l)=some (.int .i64 l.length):=oP l
def t157{h:Hp}{l:Nat}{vars:List fu}{c:jS}(H:CS h l vars c)(hb:vars.length<=1000000)(e:Exp)(hn:e.op=13->e.names.length<=1000000):af pg 157 [.hp l 0,e.av] h= .ok (qZ vars e).av h:=by
 rw[C157];simp only[S157,fE0,Wj,ae,kQ,ai,Xp];unfold qZ;by_cases h3:e.op=3
 ·simp only[Xr h3,KH,ae,GC];rfl
 simp only[Xn h3];by_cases h4:e.op=4
 ·simp only[Xr h4,KH,ae,GC];rfl
 simp only[Xn h4];by_cases h5:e.op=5
 ·simp only[Xr h5,KH,ae,GC];rfl
 simp only[Xn h5];by_cases h6:e.op=6
 ·simp only[Xr h6,KH,ae,GC];rfl
 simp only[Xn h6];by_cases h7:e.op=7
 ·simp only[Xr h7,KH,ae,GC];rfl
 simp only[Xn h7];by_cases h10:e.op=10
 ·simp only[Xr h10,KH,ae,GC];rfl
 simp only[Xn h10];by_cases h13:e.op=13
 ·simp only[Xr h13,fE4,WQ,ae,t119 e.names ZN,aj,WE,GC];rfl
 simp only[Xn h13];by_cases h14:e.op=14
 ·simp only[Xr h14,fE2,Oz,ae,WF,GC];rfl
 simp only[Xn h14];by_cases h15:e.op=15
 ·simp only[Xr h15,fE2,Oz,fE3,WP,fE5,NC,Sj,ae,WG,GC];rfl
 simp only[Xn h15];by_cases h16:e.op=16
 ·simp only[Xr h16,fE1,Vr,ae,MJ,GC];rfl
 simp only[Xn h16,fE2,Oz,ae];rw[aQ (t154 H e.s hb)];simp only[MJ,ae,GC];rfl
def O7(vars:List fu)(names:List aW)(em:jS->jS)(e:Exp)(L:Nat):Prop:=∀(c:jS)(h:Hp)(l:Nat),CS h l vars c->c.1.length+L<=100000000000->
 ∃h',af pg 97 [.hp l 0,e.av,strs names] h= .ok (.tup []) h'/\CS h' l vars (em c)/\sE l h h'
theorem Wh{lb n k:Nat}(h:k<n):aA T 72 (.hs lb 0 n 5 true) (.int .i64 (k:Int))=some (.hp lb (0+k*5)):=by
 have e:aA T 72 (.hs lb 0 n 5 true) (.int .i64 (k:Int))=if 0<=(k:Int)/\(k:Int)<(n:Int)then some (.hp lb (0+(k:Int).toNat*5))else none:=rfl
 grind
theorem fI1(l k:Nat):ah T 138 (.hp l k) 1=some (.hp l (k+1)):=rfl
def HT{h:Hp}{l:Nat}{vars:List fu}{c:jS}(H:CS h l vars c)(k:Nat)(n:Int)(hk:k<c.1.length):
  ∃lb h',h[l]? = some [bR vars,.hs lb 0 c.1.length 5 true,.int .i64 c.2]/\bU T 3 (.hp lb (0+k*5+1)) (.int .i64 n) h= .ok (.tup []) h'/\CS h' l vars (re c.1 k n,c.2)/\sE l h h':=by
 obtain⟨x,hl,hx⟩:=H;rcases hx with⟨h1,rfl⟩|⟨h1,lb,hlb,rfl,hq⟩
 ·grind
 ·have hln:=og (f:=Ins.av) JI c.1;have hr:setCells (rowOf Ins.av c.1) (k*5+1) [.int .i64 n]=rowOf Ins.av (re c.1 k n):=by
   unfold re;rw[Xv c.1 k hk];exact ql JI ZO c.1 k hk rfl
  have hlt:=lT hq;refine⟨lb,_,hl,sV (T:=T) (t:=3) rfl (v:=.int .i64 n) hq rfl (show 0+k*5+1+1<=(rowOf Ins.av c.1).length by omega) ZM,⟨.hs lb 0 c.1.length 5 true,?_,.inr ⟨?_,lb,hlb,?_,?_⟩⟩,sE.set ZL⟩
  ·grind
  ·grind [nO]
  ·rw[nO]
  simp_all
def t155{vars:List fu}{names:List aW}{em:Exp->jS->jS}{yes no:Exp}{L1 L2:Nat}(h1:O7 vars names (em yes) yes L1)(h2:O7 vars names (em no) no L2)(a1:oN (em yes) L1)(a2:oN (em no) L2){c:jS}{h:Hp}{l:Nat}(H:CS h l vars c)(hb:c.1.length+(L1+L2+2)<=100000000000):∃h',af pg 155 [.hp l 0,yes.av,no.av,strs names] h= .ok (.tup []) h'/\CS h' l vars (iC em yes no c)/\sE l h h':=by
 obtain⟨k1,e1,H1,o1⟩:=t98 H (cB 11 0) ZL;have g1:=dl (cB 11 0) c;dsimp only[iC];generalize gE (cB 11 0) c=c1 at *;obtain⟨k2,e2,H2,o2⟩:=h1 c1 k1 l H1 ZL;have g2:=a1 c1;generalize em yes c1=c2 at *;obtain⟨k3,e3,H3,o3⟩:=t98 H2 (cB 10 0) ZL;have g3:=dl (cB 10 0) c2;generalize gE (cB 10 0) c2=c3 at *;obtain⟨lb,k4,r4,e4,H4,o4⟩:=HT H3 c.1.length c3.1.length ZL;have g4:=nO c3.1 c.1.length c3.1.length;obtain⟨k5,e5,H5,o5⟩:=h2 (re c3.1 c.1.length c3.1.length,c3.2) k4 l H4 ZN;have g5:=a2 (re c3.1 c.1.length c3.1.length,c3.2);generalize em no (re c3.1 c.1.length c3.1.length,c3.2)=c5 at *;simp only[g4]at g5;obtain⟨lb2,k6,r6,e6,H6,o6⟩:=HT H5 c2.1.length c5.1.length ZL;refine⟨k6,?_,H6,(((((o1.trans o2).trans o3).trans o4).trans o5).trans o6)⟩;have ln:∀(b n:Nat),bm T 72 (.hs b 0 n 5 true)=some (.int .i64 n):=fun _ _=>rfl;rw[C155];simp -implicitDefEqProofs only[S155,KH,ae];rw[aQ e1];simp -implicitDefEqProofs only[Ho,ae];rw[aQ e2,aQ e3];simp -implicitDefEqProofs only[HL,fC1,ae];rw[aQ (mG r4),aQ (mG r4)];simp -implicitDefEqProofs only[ln,ae,Wh (lb:=lb) (show c.1.length<c3.1.length by omega),fI1];rw[aQ e4,aQ e5,aQ (mG r6),aQ (mG r6)];simp -implicitDefEqProofs only[ln,ae,Wh (lb:=lb2) (show c2.1.length<c5.1.length by omega),fI1];rw[aQ e6];rfl
theorem DU{vars:List fu}{names:List aW}{em:Exp->jS->jS}{L:Nat}{es:List Exp}(hes:es.length<=1000000){l:Nat}:∀(B A:List Exp)(c:jS)(h:Hp),A++B=es->(∀x∈B,O7 vars names (em x) x L)->(∀x∈B,oN (em x) L)->CS h l vars c->c.1.length+B.length*L<=100000000000->
  ∃h',ak (L156_0 (af pg) ak) [.hp l 0,strs names,df es,.int .i64 es.length,.int .i64 A.length] h= .ok (.tup []) h'/\CS h' l vars (B.foldl (fun c x=>em x c) c)/\sE l h h'
 |[],A,c,h,e,_,_,H,_=>by
  subst e;refine⟨h,?_,H,sE.refl _ _⟩;have h1:¬((A.length:Int)<((A++[]).length:Int)):=ZO
  rw[FL156_0];simp only[L156_0,ao,au,aB,ae,ai,Xp,Xn h1];rfl
 |x:: B,A,c,h,e,ho,ha,H,hb=>by
  have hlen:A.length+(B.length+1)=es.length:=by rw[<- e];simp
  have h1:(A.length:Int)<(es.length:Int):=ZL
  have hix:=m7 (l:=es) (n:=(A.length:Int)) ZL h1;have hx:es[A.length]! = x:=by rw[Xv es A.length ZL];simp[<- e]
  rw[Xw,hx]at hix;have hw:IntKind.i64.wrap ((A.length:Int)+1)=((A++[x]).length:Nat):=by rw[aS ZL ZL];simp
  simp only[XQ,Nat.succ_mul]at hb;obtain⟨k1,e1,H1,o1⟩:=ho x ZO c h l H ZL;have g1:=ha x ZO c;obtain⟨k2,e2,H2,o2⟩:=DU hes B (A++[x]) (em x c) k1 ZN (fun y hy=>ho y (by simp[hy])) (fun y hy=>ha y (by simp[hy])) H1 ZL;refine⟨k2,?_,H2,o1.trans o2⟩;rw[FL156_0];simp only[L156_0,ao,au,aB,ae,ai,Xp,Xr h1,hix,Ho,BU,aj];rw[aQ e1];simp_all
def t156{vars:List fu}{names:List aW}{em:Exp->jS->jS}{L:Nat}{es:List Exp}(hes:es.length<=1000000)(ho:∀x∈es,O7 vars names (em x) x L)(ha:∀x∈es,oN (em x) L){c:jS}{h:Hp}{l:Nat}(H:CS h l vars c)(hb:c.1.length+es.length*L<=100000000000):
  ∃h',af pg 156 [.hp l 0,df es,strs names] h= .ok (.tup []) h'/\CS h' l vars (es.foldl (fun c x=>em x c) c)/\sE l h h':=by
 obtain⟨h',e1,H1,o1⟩:=DU hes es [] c h rfl ho ha H hb;simp_all[C156,S156]
def B6{f:FuncId}{args:List AV}{v:AV}(h:af pg f args=am v):zK (af pg) f args=am v:=by
 simp_all[zK]
def IG(n:Int):cS (zK (af pg)) (.fn (.func 152) [] []) [.int .i64 n]=am (lD n).av:=B6 (t152 n)
section
variable {e:Exp}
theorem JK(h:0<e.args.length):aA T 48 (df e.args) (.int .i64 0)=some (.ip (aa e.args[0]!.av)):=m7 (l:=e.args) (n:=0) ZL ZL
theorem JL(h:1<e.args.length):aA T 48 (df e.args) (.int .i64 1)=some (.ip (aa e.args[1]!.av)):=m7 (l:=e.args) (n:=1) ZL ZL
theorem Vm(h:2<e.args.length):aA T 48 (df e.args) (.int .i64 2)=some (.ip (aa e.args[2]!.av)):=m7 (l:=e.args) (n:=2) ZL ZL
end
theorem dE{n:Nat}(h:1<=n)(t:Int)(ht:t=0\/t=1):cP n (lD t)=true:=by
 obtain⟨m,rfl⟩:∃m,n=m+1:=⟨n-1,ZL⟩;rw[fD];rcases ht with rfl|rfl<;>rfl
def WZ(a b:Int):jU true [.int .i64 a,.int .i64 b]=some (.int .i64 (max a b)):=by
 simp_all
theorem dq{α:Type}(a:α):dx (am a)=am a:=rfl
theorem V8(s:aW):aP T 31 1 [(0,.str s)]=some (strs [s]):=rfl
theorem t97{vars:List fu}(hv:vars.length<=1000000):∀(n:Nat)(e:Exp),cP n e=true->∀names:List aW,names.length+n<=1000000->O7 vars names (bC vars n e names) e (oq n)
 |0,e,h,_,_=>by simp[cP]at h
 | n+1,e,h,names,hn=>by
  have ih:=t97 hv n;have hs:ie e=true:=by rw[fD,Xq]at h;exact h.1
  have hc:=jE hs;have h8:=Dh hs;intro c hp l H hb;simp only[oq]at hb;rw[C97];simp -implicitDefEqProofs only[S97,fE0,Wj,ae,kQ,ai,Xp];unfold bC;by_cases o0:e.op=0
  ·obtain⟨h1,e1,H1,l1⟩:=t98 H (cB 0 e.n) ZL;refine⟨h1,?_,ZN,l1⟩;simp -implicitDefEqProofs only[Xr o0,fE1,Vr,MJ,ae];rw[aQ e1];rfl
  simp -implicitDefEqProofs only[Xn o0];by_cases o1:e.op=1
  ·obtain⟨h1,e1,H1,l1⟩:=t98 H (cB 1 e.n) ZL;refine⟨h1,?_,ZN,l1⟩;simp -implicitDefEqProofs only[Xr o1,fE1,Vr,MJ,ae];rw[aQ e1];rfl
  simp -implicitDefEqProofs only[Xn o1];by_cases o2:e.op=2
  ·obtain⟨h1,e1,H1,l1⟩:=t98 H (cB 2 (DO names e.s)) ZL;refine⟨h1,?_,ZN,l1⟩;simp -implicitDefEqProofs only[Xr o2,fE2,Oz,ae,t153 names e.s ZL,aj,MJ];rw[aQ e1];rfl
  simp -implicitDefEqProofs only[Xn o2];by_cases o17:e.op=17
  ·obtain⟨h1,e1,H1,l1⟩:=t98 H (cB 16 (KA vars e.s)) ZL;refine⟨h1,?_,ZN,l1⟩;simp -implicitDefEqProofs only[Xr o17,fE2,Oz,ae];rw[aQ (t154 H e.s hv)];simp -implicitDefEqProofs only[MJ,ae];rw[aQ e1];rfl
  simp -implicitDefEqProofs only[Xn o17];by_cases o8:e.op=8
  ·have hl:e.args.length=2:=ZL
   have r0:=dm h (k:=0) ZL;have r1:=dm h (k:=1) ZL;have hn1:1<=n:=by obtain⟨m,rfl⟩:=eZ r0;omega
   have rt:=dE hn1 0 (.inl rfl);obtain⟨h1,e1,H1,l1⟩:=ih _ r0 names ZL c hp l H ZL;have g1:=cF vars _ _ r0 names c;obtain⟨h2,e2,H2,l2⟩:=t155 (em:=fun x=>bC vars n x names) (ih _ r1 names ZL) (ih _ rt names ZL) (cF vars _ _ r1 names) (cF vars _ _ rt names) H1 ZL;refine⟨h2,?_,ZN,l1.trans l2⟩;simp -implicitDefEqProofs only[Xr o8,fE5,NC,ae,JK (e:=e) ZL,Ho];rw[aQ e1];simp -implicitDefEqProofs only[ae,JL (e:=e) ZL,Ho,IG,aj];rw[aQ e2];rfl
  simp -implicitDefEqProofs only[Xn o8];by_cases o9:e.op=9
  ·have hl:e.args.length=2:=ZL
   have r0:=dm h (k:=0) ZL;have r1:=dm h (k:=1) ZL;have hn1:1<=n:=by obtain⟨m,rfl⟩:=eZ r0;omega
   have rt:=dE hn1 1 (.inr rfl);obtain⟨h1,e1,H1,l1⟩:=ih _ r0 names ZL c hp l H ZL;have g1:=cF vars _ _ r0 names c;obtain⟨h2,e2,H2,l2⟩:=t155 (em:=fun x=>bC vars n x names) (ih _ rt names ZL) (ih _ r1 names ZL) (cF vars _ _ rt names) (cF vars _ _ r1 names) H1 ZL;refine⟨h2,?_,ZN,l1.trans l2⟩;simp -implicitDefEqProofs only[Xr o9,fE5,NC,ae,JK (e:=e) ZL,Ho];rw[aQ e1];simp -implicitDefEqProofs only[ae,JL (e:=e) ZL,Ho,IG,aj];rw[aQ e2];rfl
  simp -implicitDefEqProofs only[Xn o9];by_cases o11:e.op=11
  ·have hl:e.args.length=3:=ZL
   have r0:=dm h (k:=0) ZL;have r1:=dm h (k:=1) ZL;have r2:=dm h (k:=2) ZL;obtain⟨h1,e1,H1,l1⟩:=ih _ r0 names ZL c hp l H ZL;have g1:=cF vars _ _ r0 names c;obtain⟨h2,e2,H2,l2⟩:=t155 (em:=fun x=>bC vars n x names) (ih _ r1 names ZL) (ih _ r2 names ZL) (cF vars _ _ r1 names) (cF vars _ _ r2 names) H1 ZL;refine⟨h2,?_,ZN,l1.trans l2⟩;simp -implicitDefEqProofs only[Xr o11,fE5,NC,ae,JK (e:=e) ZL,Ho];rw[aQ e1];simp -implicitDefEqProofs only[ae,JL (e:=e) ZL,Vm (e:=e) ZL,Ho];rw[aQ e2];rfl
  simp -implicitDefEqProofs only[Xn o11];by_cases o12:e.op=12
  ·have hl:e.args.length=2:=ZL
   have r0:=dm h (k:=0) ZL;have r1:=dm h (k:=1) ZL;obtain⟨h1,e1,H1,l1⟩:=ih _ r0 names ZL c hp l H ZL;have g1:=cF vars _ _ r0 names c;simp -implicitDefEqProofs only[Xr o12];generalize bC vars n e.args[0]! names c=c1 at *;obtain⟨h2,e2,H2,l2⟩:=t98 H1 (cB 3 names.length) ZL;have g2:=dl (cB 3 names.length) c1;generalize gE (cB 3 names.length) c1=c2 at *;obtain⟨x,hx,cx⟩:=H2;have hlt:=lT hx;have st:bU T 3 (.hp l 2) (.int .i64 (max c2.2 ((names.length:Int)+1))) h2= .ok (.tup []) (h2.set l [bR vars,x,.int .i64 (max c2.2 ((names.length:Int)+1))]):=
    sV (T:=T) (t:=3) rfl (v:=.int .i64 (max c2.2 ((names.length:Int)+1))) hx rfl (show 2+1<=3 by omega) ZM
   have H3:CS (h2.set l [bR vars,x,.int .i64 (max c2.2 ((names.length:Int)+1))]) l vars (c2.1,max c2.2 ((names.length:Int)+1)):=by
    refine⟨x,ZN,?_⟩;rcases cx with cx|⟨z1,lb,z2,z3,z4⟩
    ·exact .inl cx
    ·exact .inr ⟨z1,lb,z2,z3,ZN⟩
   obtain⟨h3,e3,H4,l3⟩:=ih _ r1 (names++[e.s]) ZQ _ _ l H3 ZN;refine⟨h3,?_,H4,((l1.trans l2).trans (sE.set (Xt _))).trans l3⟩;have hw:IntKind.i64.wrap ((names.length:Int)+1)=names.length+1:=aS ZL ZL;have hap:dG T 31 (strs names) (strs [e.s])=some (strs (names++[e.s])):=I5 ZQ;simp -implicitDefEqProofs only[fE5,NC,ae,JK (e:=e) ZL,Ho];rw[aQ e1];simp -implicitDefEqProofs only[ae,gW,MJ];rw[aQ e2];simp -implicitDefEqProofs only[ae,HL,fC2];rw[aQ (Hw hx)];simp -implicitDefEqProofs only[ae,gW,bj,hw,WZ];rw[aQ st];simp -implicitDefEqProofs only[ae,fE5,NC,JL (e:=e) ZL,Ho,t119 names ZL,dq,aj,fE2,Oz,V8,hap];rw[aQ e3];rfl
  simp -implicitDefEqProofs only[Xn o12];have hm:e.args.length*oq n<=8*oq n:=Xy _ h8;obtain⟨h1,e1,H1,l1⟩:=t156 (em:=fun x=>bC vars n x names) (L:=oq n) (es:=e.args) ZL (fun x hx=>ih x (gt h hx) names ZL) (fun x hx=>cF vars n x (gt h hx) names) H ZL;have g1:=tQ (fun x=>bC vars n x names) (oq n) e.args (fun x hx=>cF vars n x (gt h hx) names) c;dsimp only at g1 H1;generalize e.args.foldl (fun c x=>bC vars n x names c) c=c1 at *;obtain⟨h2,e2,H2,l2⟩:=t98 H1 (qZ vars e) ZL;have hpl:=t157 H1 hv e (fun h13=>ZN);refine⟨h2,?_,H2,l1.trans l2⟩;simp -implicitDefEqProofs only[fE5,NC,ae];rw[aQ e1];simp -implicitDefEqProofs only[ae,Ho];rw[aQ hpl,aQ e2];rfl
theorem GQ(k:Int)(es:List Exp):cE T false 108 [(0,.int .i64 k),(5,df es)]=some (Exp.mk k 0 [] [] [] es).av:=rfl
def B1(e:Exp):cg 6 e.av=am e.av:=ZP
def GD(e:Exp):bF 6 [] e.av=am e.av:=ZP
def f6(o n:Int)(s m:aW)(ns:List aW)(es:List Exp):AV.agg [.int .i64 o,.int .i64 n,.str s,.str m,strs ns,df es]=(Exp.mk o n s m ns es).av:=kE (Exp.mk o n s m ns es)
def Wa(o n:Int)(s m:aW)(es:List Exp):AV.agg [.int .i64 o,.int .i64 n,.str s,.str m,.sl [],df es]=(Exp.mk o n s m [] es).av:=kE (Exp.mk o n s m [] es)
def DK(e:Exp)(n:Int):be (am (.tup [e.av,.int .i64 n]))=am (.tup [e.av,.int .i64 n]):=dw fun g=>by simp[cl,fl]
def iR(o n:Int)(s m:aW)(ns:List aW)(es:List Exp):aa (Exp.mk o n s m ns es).av=[.int .i64 o,.int .i64 n,.str s,.str m,strs ns,df es]:=cd _
def t179(e:Exp):af pg 179 [e.av]=am (.tup [(iW e).1.av,.int .i64 (iW e).2]):=by
 have hc1:∀n:Int,gG (.int .i64 n)=am (.int .i64 n):=fun n=>rfl;have hc2:∀s:aW,gG (.str s)=am (.str s):=fun s=>rfl;have hc3:∀s:List aW,gG (strs s)=am (strs s):=fun s=>rfl;rw[C179];obtain⟨o,n,s,m,ns,es⟩:=e;have ho:o=0\/o=1\/o=2\/o=17\/o=18\/o=14\/o=16\/o=10\/o=12\/o=11\/o=13\/o=15\/(o≠0/\o≠1/\o≠2/\o≠17/\o≠18/\o≠14/\o≠16/\o≠10/\o≠12/\o≠11/\o≠13/\o≠15):=ZL
 rcases ho with rfl|rfl|rfl|rfl|rfl|rfl|rfl|rfl|rfl|rfl|rfl|rfl|⟨h0,h1,h2,h17,h18,h14,h16,h10,h12,h11,h13,h15⟩
 all_goals first
  | (simp[S179,K179_0,K179_1,K179_2,GQ,GD,iR,f6,Wa,hc1,hc2,hc3,iW,Exp.op,Exp.n,Exp.s,Exp.m,Exp.names,Exp.args]
     exact DK _ _)
  | (simp[S179,K179_0,K179_1,K179_2,GQ,GD,iR,f6,Wa,hc1,hc2,hc3,iW,Exp.op,Exp.n,Exp.s,Exp.m,Exp.names,Exp.args,h0,h1,h2,h17,h18,h14,h16,h10,h12,h11,h13,h15]
     exact DK _ _)
theorem HJ(e:Exp)(he:e.Lim):ak (L180_0 (af pg) ak) [.ip (aa e.av),strs e.names,.int .i64 e.names.length,.int .i64 0]=am (.bool (jM e.names)):=by
 have hlen:=he.names
 have hloop:∀(m i:Nat),e.names.length-i=m->i<=e.names.length->ak (L180_0 (af pg) ak) [.ip (aa e.av),strs e.names,.int .i64 e.names.length,.int .i64 i]=am (.bool ((List.range' i (e.names.length-i)).all (fun k=>cr e.names[k]! && (decide (k=0)||eE e.names[k-1]! e.names[k]!))&&decide (e.names.length<=8))):=by
  intro m
  induction m with
  |zero=>
   intro i hm hi;rw[FL180_0,hm];have h1:¬((i:Int)<(e.names.length:Int)):=ZL
   have h2:decide ((e.names.length:Int)<=8)=decide (e.names.length<=8):=by rw[Yn];omega
   simp[L180_0,h1,h2]
  | succ m ih=>
   intro i hm hi;have hlt:i<e.names.length:=ZL
   have h1:(i:Int)<(e.names.length:Int):=ZL
   have ih':=ih (i+1) ZL ZL;have er:List.range' i (e.names.length-i)=i:: List.range' (i+1) (e.names.length-(i+1)):=by
    rw[show e.names.length-i=(e.names.length-(i+1))+1 by omega,List.range'_succ]
   have hix:=oO (l:=e.names) (n:=(i:Int)) ZL h1;rw[Xw]at hix;have hw:IntKind.i64.wrap ((i:Int)+1)=((i+1:Nat):Int):=aV ZL;have h2:=t92 e.names[i]!;rw[FL180_0,er,XL];generalize e.names[i]! = s at hix h2 |-;cases hn:cr s with
   |false=>
    simp_all[L180_0]
   | true=>
    rw[hn]at h2;rcases Ya i with hk0|hk0
    ·subst hk0;have hix0:aA T 31 (strs e.names) (.int .i64 0)=some (.ip (aa (.str s))):=hix;have hw0:IntKind.i64.wrap 1=1:=rfl;simp_all[L180_0]
    ·have hp:IntKind.i64.wrap ((i:Int)-1)=((i-1:Nat):Int):=by
      rw[aS ZL ZL];omega
     have h4:((i-1:Nat):Int)<(e.names.length:Int):=ZL
     have hix2:=oO (l:=e.names) (n:=((i-1:Nat):Int)) ZL h4;rw[Xw]at hix2;generalize e.names[i-1]! = g at hix2 |-;have hk2:0<(i:Int):=ZL
     have hk3:¬i=0:=ZL
     have hle:cz T .leq 9 (.str s) (.str g)=some (.bool (!(eE g s))):=by
      have:cz T .leq 9 (.str s) (.str g)=some (.bool (bY s g||s== g)):=rfl;rw[this];simp[eE]
     cases hs:eE g s with
     |false=>
      simp_all[L180_0]
     |true=>
      simp_all[L180_0]
 have h:=hloop e.names.length 0 rfl (XJ _);rw[Y2,xQ]at h;exact h
theorem t180(e:Exp)(he:e.Lim):af pg 180 [e.av]=am (.bool (iF e)):=by
 rw[C180];have hs:=t92 e.s;have hm:=t92 e.m;have hbn:=HJ e he;obtain⟨o,n,s,m,ns,es⟩:=e;simp only[iR,Exp.names]at hbn;simp only[Exp.s,Exp.m]at hs hm;have ho:o=0\/o=1\/o=2\/o=17\/o=18\/o=14\/o=16\/o=12\/o=13\/o=15\/(o≠0/\o≠1/\o≠2/\o≠17/\o≠18/\o≠14/\o≠16/\o≠12/\o≠13/\o≠15):=ZL
 rcases ho with rfl|rfl|rfl|rfl|rfl|rfl|rfl|rfl|rfl|rfl|⟨h0,h1,h2,h17,h18,h14,h16,h12,h13,h15⟩
 ·simp[S180,K180_0,iR,iF,Exp.op,Exp.n,Exp.s,Exp.m,Exp.names,Exp.args];rfl
 ·simp_all[S180,iF,Exp.op]
 ·simp_all[S180,K180_0,iF,Exp.op,Exp.s]
 ·simp_all[S180,K180_0,iF,Exp.op,Exp.s]
 ·simp_all[S180,K180_0,iF,Exp.op,Exp.s]
 ·simp_all[S180,K180_0,iF,Exp.op,Exp.s]
 ·simp_all[S180,iF,Exp.op]
 ·simp_all[S180,K180_0,iF,Exp.op,Exp.s]
 ·simp_all[S180,K180_0,iF,Exp.op,Exp.n,Exp.s,Exp.m,Exp.names,Exp.args]
 ·have e6:cz T .leq 3 (.int .i64 es.length) (.int .i64 6)=some (.bool (decide (es.length<=6))):=by
   have:cz T .leq 3 (.int .i64 es.length) (.int .i64 6)=some (.bool (decide ((es.length:Int)<=6))):=rfl;rw[this];exact XY (fun b=>some (AV.bool b)) (Yn.2 ZL)
  cases ha:cr s with
  |false=>simp_all[S180,K180_0,iF,Exp.op,Exp.s]
  | true=>
   rw[ha]at hs;by_cases hme:m=[]
   ·simp[S180,K180_0,iR,iF,Exp.op,Exp.n,Exp.s,Exp.m,Exp.names,Exp.args,hs,ha,hme,e6,-fk];try rfl
   ·cases hb:cr m with
    |false=>rw[hb]at hm;simp[S180,K180_0,iR,iF,Exp.op,Exp.n,Exp.s,Exp.m,Exp.names,Exp.args,hs,hm,ha,hb,hme,e6,-fk];try rfl
    |true=>rw[hb]at hm;simp[S180,K180_0,iR,iF,Exp.op,Exp.n,Exp.s,Exp.m,Exp.names,Exp.args,hs,hm,ha,hb,hme,e6,-fk];try rfl
 simp_all[S180,K180_0,iF,Exp.op]
theorem t151:∀(d:Nat),d<=100->∀(e:Exp),e.Lim->af pg 151 [e.av,.int .i64 d]=am (.bool (cP d e))
 |0,_,e,_=>by
  rw[C151];simp[S151,cP]
 | d+1,hd,e,he=>by
  have hlen:=he.len;have hd1:IntKind.i64.wrap (((d+1:Nat):Int)-1)=(d:Int):=xG ZL;have hloop:∀(m i:Nat),e.args.length-i=m->i<=e.args.length->ak (L151_0 (af pg) ak) [.int .i64 ((d+1:Nat):Int),df e.args,.int .i64 e.args.length,.int .i64 i]=am (.bool ((e.args.drop i).all (cP d))):=by
   intro m
   induction m with
   |zero=>
    intro i hm hi;have h1:¬((i:Int)<(e.args.length:Int)):=ZL
    have h2:e.args.drop i=[]:=List.drop_eq_nil_of_le ZL;rw[FL151_0,h2];simp[L151_0,h1]
   |succ m ih=>
    intro i hm hi;have hlt:i<e.args.length:=ZL
    have h1:(i:Int)<(e.args.length:Int):=ZL
    have h2:e.args.drop i=e.args[i]:: e.args.drop (i+1):=List.drop_eq_getElem_cons hlt;have hix:=m7 (l:=e.args) (n:=(i:Int)) ZL h1;rw[Xw,Xv e.args i hlt]at hix;have hw:IntKind.i64.wrap ((i:Int)+1)=((i+1:Nat):Int):=aV ZL;have hb:=t151 d ZL e.args[i] (he.kid (XB hlt));have ih':=ih (i+1) ZL ZL;rw[h2,XL,FL151_0];generalize e.args[i]=x at hix hb |-;cases hr:cP d x<;>rw[hr]at hb <;>
    simp only[L151_0,ao,au,aB,ae,h1,XP,ai,XA,hix,cd,LD108,XQ,X0,XE,Nat.reduceAdd,Xt,X4,X2,kE,B1,aj,fF,hd1,hb,bc,X3,XH,Xo,Xu,bj,hw,ih',YB,Yr]
  have hx':ak (L151_0 (af pg) ak) [.int .i64 ((d:Int)+1),df e.args,.int .i64 e.args.length,.int .i64 0]=am (.bool (e.args.all (cP d))):=hloop e.args.length 0 rfl (XJ _);have hc:=t179 e;have hl:=t180 e he;rw[C151,fD];unfold ie;generalize (iW e).1=c at hc |-;generalize (iW e).2=n at hc |-;have g1:(((d:Int)+1)== 0)=false:=by rw[YT];omega
  have x0:dt (.tup [c.av,.int .i64 n]) 0=some c.av:=rfl;have x1:dt (.tup [c.av,.int .i64 n]) 1=some (.int .i64 n):=rfl;have e1:cz T .neq 3 (.int .i64 c.n) (.int .i64 e.n)=some (.bool (!(c.n== e.n))):=rfl;have e2:cz T .neq 9 (.str c.s) (.str e.s)=some (.bool (!(c.s== e.s))):=rfl;have e3:cz T .neq 9 (.str c.m) (.str e.m)=some (.bool (!(c.m== e.m))):=rfl;have e4:cz T .neq 3 (.int .i64 c.names.length) (.int .i64 e.names.length)=some (.bool (!((c.names.length:Int)== (e.names.length:Int)))):=rfl;have e5:cz T .neq 3 (.int .i64 n) (.int .i64 e.args.length)=some (.bool (!(n== (e.args.length:Int)))):=rfl;have e6:cz T .geq 3 (.int .i64 n) (.int .i64 0)=some (.bool (!(decide (n<0)))):=by
   have:cz T .geq 3 (.int .i64 n) (.int .i64 0)=some (.bool (decide (0<=n))):=rfl;rw[this,<- Zn];exact XY (fun b=>some (AV.bool b)) (Yn.2 ZL)
  have e7:cz T .lss 3 (.int .i64 e.op) (.int .i64 0)=some (.bool (!(decide (0<=e.op)))):=by
   have:cz T .lss 3 (.int .i64 e.op) (.int .i64 0)=some (.bool (decide (e.op<0))):=rfl;rw[this,<- Zn];exact XY (fun b=>some (AV.bool b)) (Yn.2 ZL)
  have e8:cz T .geq 3 (.int .i64 e.op) (.int .i64 19)=some (.bool (!(decide (e.op<19)))):=by
   have:cz T .geq 3 (.int .i64 e.op) (.int .i64 19)=some (.bool (decide (19<=e.op))):=rfl;rw[this,<- Zn];exact XY (fun b=>some (AV.bool b)) (Yn.2 ZL)
  generalize (c.n== e.n)=b1 at e1 |-;generalize (c.s== e.s)=b2 at e2 |-;generalize (c.m== e.m)=b3 at e3 |-;generalize ((c.names.length:Int)== (e.names.length:Int))=b4 at e4 |-;generalize (n== (e.args.length:Int))=b5 at e5 |-;generalize decide (n<0)=b6 at e6 |-;generalize decide (0<=e.op)=b7 at e7 |-;generalize decide (e.op<19)=b8 at e8 |-;generalize iF e=bl at hl |-;generalize e.args.all (cP d)=bx at hx' |-;cases b7 with
  |false=>simp[S151,g1,e7,-aB]
  | true=>
   cases b8 with
   |false=>simp_all[S151]
   |true=>
    cases b6<;>cases b5<;>cases b1<;>cases b2<;>cases b3<;>cases b4<;>cases bl<;>simp[S151,g1,hc,x0,x1,B1,hl,hx',e1,e2,e3,e4,e5,e6,e7,e8,-aB,-jl,-gw]
def t95(e:Exp)(he:e.Lim):af pg 95 [e.av]=am (.bool (Fy e)):=by
 have hb':af pg 151 [e.av,.int .i64 12]=am (.bool (cP 12 e)):=t151 12 ZL e he;rw[C95];simp[S95,hb']
def setRow(ns:List aW):List AV:=ns.map fun s=>.tup [.str s,.bool true]
theorem Na(a b:aW):qI T 20 9 (.str a) (.str b)=some (a== b):=rfl
theorem qM(s:aW):(ns:List aW)->(i:Nat)->(ns.contains s=false/\eM T 9 (.str s) (setRow ns) i=some none)\/(ns.contains s=true/\∃(j:Nat)(k:AV),eM T 9 (.str s) (setRow ns) i=some (some (j,k,.bool true)))
 |[],i=>.inl ⟨rfl,rfl⟩
 | x:: ns,i=>by
  show (_/\eM T 9 (.str s) (.tup [.str x,.bool true]:: setRow ns) i=_)\/(_/\∃(j:Nat)(k:AV),eM T 9 (.str s) (.tup [.str x,.bool true]:: setRow ns) i=_);unfold eM;rw[Na,List.contains_cons];cases h:s== x with
  |true=>grind
  |false=>
   rcases qM s ns (i+1)with⟨h1,h2⟩|⟨h1,j,k,h2⟩
   all_goals grind
theorem ux{h:Hp}{l:Nat}{ns:List aW}(hl:h[l]? = some [.tup (setRow ns)])(s:aW):d9 T 153 (.mp l) (.str s) false h= .ok (.bool (ns.contains s)) h:=by
 have e:oH T 153 (setRow ns) (.str s) false=(match eM T 9 (.str s) (setRow ns) 0 with
   |some (some (_,_,v))=>some v
   |some none=>some (.bool false)
   |none=>none):=rfl
 grind [d9,mT,qM]
theorem yG{h:Hp}{l:Nat}{ns:List aW}(hl:h[l]? = some [.tup (setRow ns)])(s:aW)(hs:ns.contains s=false):ou T 153 (.mp l) (.str s) (.bool true) h= .ok (.tup []) (h.set l [.tup (setRow (ns++[s]))]):=by
 have e:ou T 153 (.mp l) (.str s) (.bool true) h=(match h[l]? with
   |some [.tup es]=>(match vW T 9 es (.str s) (.bool true)with
    |some es'=>.ok (.tup []) (h.set l [.tup es'])
    |none=>.fail)
   |_=>.fail):=rfl
 grind [vW,qM,setRow]
theorem j0{α β:Type}{m:M α}{a:α}{h h':Hp}(e:m h= .ok a h')(f:α->M β):ar m f h=f a h':=by simp only[ar,e]
theorem mE{α:Type}(F:α->Bool):(l:List α)->(i:Int)->(l.find? F=none/\aY F l i= -1)\/∃(k:Nat)(x:α),l.find? F=some x/\l[k]? = some x/\aY F l i=i+k
 |[],i=>.inl ⟨rfl,rfl⟩
 | x:: l,i=>by
  cases h:F x with
  |true=>exact .inr ⟨0,x,by simp[h],rfl,by simp[aY,h]⟩
  |false=>
   rcases mE F l (i+1)with⟨h1,h2⟩|⟨k,y,h1,h2,h3⟩
   ·grind [aY]
   ·exact .inr ⟨k+1,y,by simp[h,h1],by simpa using h2,by simp[aY,h,h3];omega⟩
theorem NP(l:List fu)(hb:l.length<=140737488355328)(ht:∀f∈l,f.2.Lim)(most:Int)(q:Nat):∀(n i:Nat),l.length-i=n->i<=l.length->∀(seen:List aW)(h:Hp),h[q]? = some [.tup (setRow seen)]->
  ∃h',ak (L93_0 (af pg) ak) [bR l,.int .i64 most,.mp q,bR l,.int .i64 l.length,.int .i64 i] h= .ok (.bool (AP seen (l.drop i)&&decide ((l.length:Int)<=most))) h':=by
 intro n
 induction n with
 |zero=>
  intro i hn hi seen h hq;rw[FL93_0];have h1:¬((i:Int)<(l.length:Int)):=ZL
  have h2:l.drop i=[]:=List.drop_eq_nil_of_le ZL;rw[h2];exact⟨h,by simp[L93_0,h1,AP,am]⟩
 | succ n ih=>
  intro i hn hi seen h hq;have hlt:i<l.length:=ZL
  have h1:(i:Int)<(l.length:Int):=ZL
  have h2:l.drop i=l[i]:: l.drop (i+1):=List.drop_eq_getElem_cons hlt;have hw:IntKind.i64.wrap ((i:Int)+1)=((i+1:Nat):Int):=aV ZL;have hix:=vH (l:=l) (n:=(i:Int)) ZL h1;rw[Xw,Xv l i hlt]at hix;have hfl:=ht _ (XB hlt);have ih':=fun s=>ih (i+1) ZL ZL (seen++[s]) (h.set q [.tup (setRow (seen++[s]))]);have hql:q<h.length:=(Xx.1 hq).1;rw[h2];generalize l[i]=f at hix hfl |-;have hlk:=ux hq f.1;have hnm:=t92 f.1;have hty:=t94 f.2 hfl;have hcf:cg 3 (dU f)=am (dU f):=by rw[aZ (uG f),ku,zY]
  generalize hcode:ak (L93_0 (af pg) ak) [bR l,.int .i64 most,.mp q,bR l,.int .i64 l.length,.int .i64 i] h=code;rw[FL93_0]at hcode;simp -implicitDefEqProofs only[L93_0,ao,au,aB,ae,h1,XP,ai,XA,hix,ku,LD158,XQ,X0,XE,Nat.reduceAdd,Xt,X4,X2,zY,hcf,aj,FA158_0,FA158_1,XG,XK,LD9]at hcode;rw[j0 hlk]at hcode;have eo:AP seen (f:: l.drop (i+1))=(!(seen.contains f.1)&&cr f.1&&jO f.2&&AP (seen++[f.1]) (l.drop (i+1))):=rfl;rw[eo];cases hc:seen.contains f.1 with
  |true=>
   rw[hc]at hcode;refine⟨h,?_⟩;rw[<- hcode];simp[am]
  | false=>
   rw[hc]at hcode;cases hn2:cr f.1 with
   |false=>
    rw[hn2]at hnm;refine⟨h,?_⟩;simp_all[am]
   | true=>
    rw[hn2]at hnm;cases hr:jO f.2 with
    |false=>
     rw[hr]at hty;refine⟨h,?_⟩;simp_all[am]
    |true=>
     rw[hr]at hty;obtain⟨h',e'⟩:=ih' f.1 ZN;refine⟨h',?_⟩;have hp:=yG hq f.1 hc;rw[<- hcode];simp -implicitDefEqProofs only[hnm,hty,aj,bn,bc,XH,X3,ao,ca,ai,Xo,Xu,LD106,XQ,X0,XE,Nat.reduceAdd,Xt,XA,X4,X2,yn,ae];rw[j0 hp];simp_all
theorem t93(l:List fu)(hb:l.length<=140737488355328)(ht:∀f∈l,f.2.Lim)(most:Int):af pg 93 [bR l,.int .i64 most]=am (.bool (iI l most)):=by
 obtain⟨h',e⟩:=NP l hb ht most 0 l.length 0 rfl (XJ _) [] ([]++[[.tup []]]) rfl;rw[XG]at e;rw[C93];funext hp;have key:S93 (af pg) ak (cl aE (bR l)) (cl aE (.int .i64 most)) []= .ok (.bool (iI l most)) h':=by
  rw[xW,xX];have hn:fW []= .ok (.mp 0) ([]++[[.tup []]]):=rfl;simp -implicitDefEqProofs only[S93];rw[j0 hn];simp only[mc,ae];exact e
 show be _ hp=R.ok (.bool (iI l most)) hp;unfold be;rw[key];rfl
def t96(l:List Exp)(hb:l.length<=140737488355328)(ht:∀e∈l,e.Lim)(n:Int):af pg 96 [df l,.int .i64 n]=am (.bool (l.all Fy&&((l.length:Int)== n))):=by
 have hloop:∀(m i:Nat),l.length-i=m->i<=l.length->ak (L96_0 (af pg) ak) [df l,.int .i64 n,df l,.int .i64 l.length,.int .i64 i]=am (.bool ((l.drop i).all Fy&&((l.length:Int)== n))):=by
  intro m
  induction m with
  |zero=>
   intro i hm hi;rw[FL96_0];have h1:¬((i:Int)<(l.length:Int)):=ZL
   have h2:l.drop i=[]:=List.drop_eq_nil_of_le ZL;simp[L96_0,h1,h2]
  |succ m ih=>
   intro i hm hi;have hlt:i<l.length:=ZL
   have h1:(i:Int)<(l.length:Int):=ZL
   have h2:l.drop i=l[i]:: l.drop (i+1):=List.drop_eq_getElem_cons hlt;have hw:IntKind.i64.wrap ((i:Int)+1)=((i+1:Nat):Int):=aV ZL;have hix:=m7 (l:=l) (n:=(i:Int)) ZL h1;rw[Xw,Xv l i hlt]at hix;have hr:=t95 l[i] (ht _ (XB hlt));have ih':=ih (i+1) ZL ZL;rw[h2,XL,FL96_0];generalize l[i]=e at hix hr |-;cases hb2:Fy e<;>rw[hb2]at hr <;>
   simp only[L96_0,ao,au,aB,ae,h1,XP,ai,XA,hix,cd,LD108,XQ,X0,XE,Nat.reduceAdd,Xt,X4,X2,kE,B1,aj,hr,bc,XH,X3,Xo,Xu,bj,hw,ih',Yr,YB]
 have h:=hloop l.length 0 rfl (XJ _);rw[XG]at h;have h':ak (L96_0 (af pg) ak) [df l,.int .i64 n,df l,.int .i64 l.length,.int .i64 0]=am (.bool (l.all Fy&&((l.length:Int)== n))):=h;rw[C96];simp[S96,h']
def Jv(f:Fun):cg 12 f.av=am f.av:=ZP
theorem JZ(m:Ap.Mod)(hm:m.Lim)(q:Nat)(R:Bool)(hend:∀h:Hp,∃h',ak (L41_0 (af pg) ak) [.ip (aa m.av),.mp q,iN m.funcs,.int .i64 m.funcs.length,.int .i64 m.funcs.length] h= .ok (.bool R) h'):∀(n i:Nat),m.funcs.length-i=n->i<=m.funcs.length->∀(seen:List aW)(h:Hp),h[q]? = some [.tup (setRow seen)]->
  ∃h',ak (L41_0 (af pg) ak) [.ip (aa m.av),.mp q,iN m.funcs,.int .i64 m.funcs.length,.int .i64 i] h= .ok (.bool (rZ seen (m.funcs.drop i)&&R)) h':=by
 have hb:=hm.funcs;intro n
 induction n with
 |zero=>
  intro i hn hi seen h hq;have h2:m.funcs.drop i=[]:=List.drop_eq_nil_of_le ZL;obtain rfl:i=m.funcs.length:=ZL
  rw[h2];exact hend h
 | succ n ih=>
  intro i hn hi seen h hq;have hlt:i<m.funcs.length:=ZL
  have h1:(i:Int)<(m.funcs.length:Int):=ZL
  have h2:m.funcs.drop i=m.funcs[i]:: m.funcs.drop (i+1):=List.drop_eq_getElem_cons hlt;have hw:IntKind.i64.wrap ((i:Int)+1)=((i+1:Nat):Int):=aV ZL;have hix:=Bu (l:=m.funcs) (n:=(i:Int)) ZL h1;rw[Xw,Xv m.funcs i hlt]at hix;have hfl:=hm.fns _ (XB hlt);have ih':=fun s=>ih (i+1) ZL ZL (seen++[s]) (h.set q [.tup (setRow (seen++[s]))]);have hql:q<h.length:=(Xx.1 hq).1;rw[h2];generalize m.funcs[i]=f at hix hfl |-;have hlk:=ux hq f.name;have hnm:=t92 f.name;have hps:=t93 f.params hfl.params hfl.pty 6;have hty:=t94 f.result hfl.result;have hre:=t95 f.body hfl.body;have hex:cz T .andNot 3 (.int .i64 f.effects) (.int .i64 15)=some (.int .i64 (mz f.effects 15)):=rfl;generalize hcode:ak (L41_0 (af pg) ak) [.ip (aa m.av),.mp q,iN m.funcs,.int .i64 m.funcs.length,.int .i64 i] h=code;rw[FL41_0]at hcode;simp -implicitDefEqProofs only[L41_0,ao,au,aB,ae,h1,XP,ai,XA,hix,kv,LD110,XQ,X0,XE,Nat.reduceAdd,Xt,X4,X2,zZ,Jv,aj,FA110_0,XG,LD9]at hcode;rw[j0 hlk]at hcode;have eo:rZ seen (f:: m.funcs.drop (i+1))=(!(seen.contains f.name)&&EX f&&rZ (seen++[f.name]) (m.funcs.drop (i+1))):=rfl;rw[eo];unfold EX;cases hc:seen.contains f.name with
  |true=>
   rw[hc]at hcode;refine⟨h,?_⟩;rw[<- hcode];simp[am]
  | false=>
   rw[hc]at hcode;cases hn2:cr f.name with
   |false=>rw[hn2]at hnm;refine⟨h,?_⟩;rw[<- hcode];simp[hnm,am]
   | true=>
    rw[hn2]at hnm;cases hp2:iI f.params 6 with
    |false=>rw[hp2]at hps;refine⟨h,?_⟩;rw[<- hcode];simp[hnm,hps,am]
    | true=>
     rw[hp2]at hps;cases hr:jO f.result with
     |false=>rw[hr]at hty;refine⟨h,?_⟩;simp_all[am]
     | true=>
      rw[hr]at hty;cases hrb:Fy f.body with
      |false=>rw[hrb]at hre;refine⟨h,?_⟩;simp_all[am]
      | true=>
       rw[hrb]at hre;by_cases he:mz f.effects 15=0
       ·obtain⟨h',e'⟩:=ih' f.name ZN;refine⟨h',?_⟩;have hp:=yG hq f.name hc;rw[<- hcode];have e'':=e';simp only[eW]at e'';simp[hnm,hps,hty,hre,hex,he]
        grind [j0]
       ·refine⟨h,?_⟩;rw[<- hcode];simp_all[mz,am]
def Q0(m:Ap.Mod)(hm:m.Lim)(q:Nat)(h:Hp):∃h',ak (L41_0 (af pg) ak) [.ip (aa m.av),.mp q,iN m.funcs,.int .i64 m.funcs.length,.int .i64 m.funcs.length] h= .ok (.bool (xp m)) h':=by
 have hnm:=t92 m.name;have hv:=t93 m.vars hm.vars hm.vty 8;have hi:=t96 m.init hm.init hm.ies m.vars.length;have ho:=t93 m.old hm.old hm.oty 8;have hf:=fun n=>t96 m.forward hm.forward hm.fes n;have hb:=t96 m.back hm.back hm.bes m.old.length;refine⟨h,?_⟩;rw[FL41_0];unfold xp;generalize iI m.vars 8=b1 at hv |-;generalize (m.init.all Fy&&((m.init.length:Int)== (m.vars.length:Int)))=b2 at hi |-;generalize iI m.old 8=b3 at ho |-;generalize (m.back.all Fy&&((m.back.length:Int)== (m.old.length:Int)))=b4 at hb |-;cases hn:cr m.name with
 |false=>simp_all[L41_0,am]
 | true =>
  rw[hn]at hnm;by_cases hu:m.uses.length<=12
  ·have hu':¬(12<(m.uses.length:Int)):=ZL
   by_cases hfn:m.funcs.length<=30
   ·have hfn':¬(30<(m.funcs.length:Int)):=ZL
    cases b1 with
    |false=>simp_all[L41_0,am]
    | true=>
     cases b2 with
     |false=>simp_all[L41_0,am]
     | true=>
      cases hmv:m.moves with
      |true=>
       have hfv:=hf m.vars.length;rw[Xr rfl];simp_all[L41_0,K41_0,am]
      | false=>
       have hfv:=hf 0;rw[Xn ZM];generalize (m.forward.all Fy&&((m.forward.length:Int)== 0))=b5 at hfv |-;by_cases hz:0<m.old.length
       ·have hz':0<(m.old.length:Int):=ZL
        have hz2:¬m.old.length=0:=ZL
        simp_all[L41_0,am]
       simp_all[am,L41_0,K41_0]
   ·have hfn':30<(m.funcs.length:Int):=ZL
    simp[L41_0,hnm,hu,hu',hfn,hfn',am]
  ·have hu':12<(m.uses.length:Int):=ZL
   simp[L41_0,hnm,hu,hu',am]
theorem J0(m:Ap.Mod)(hm:m.Lim)(q:Nat)(R:Bool)(hend:∀h:Hp,∃h',ak (L41_1 (af pg) ak) [.ip (aa m.av),.mp q,strs m.uses,.int .i64 m.uses.length,.int .i64 m.uses.length] h= .ok (.bool R) h'):∀(n i:Nat),m.uses.length-i=n->i<=m.uses.length->∀(seen:List aW)(h:Hp),h[q]? = some [.tup (setRow seen)]->
  ∃h',ak (L41_1 (af pg) ak) [.ip (aa m.av),.mp q,strs m.uses,.int .i64 m.uses.length,.int .i64 i] h= .ok (.bool (HP seen (m.uses.drop i)&&R)) h':=by
 have hb:=hm.uses;intro n
 induction n with
 |zero=>
  intro i hn hi seen h hq;have h2:m.uses.drop i=[]:=List.drop_eq_nil_of_le ZL;obtain rfl:i=m.uses.length:=ZL
  rw[h2];exact hend h
 | succ n ih=>
  intro i hn hi seen h hq;have hlt:i<m.uses.length:=ZL
  have h1:(i:Int)<(m.uses.length:Int):=ZL
  have h2:m.uses.drop i=m.uses[i]:: m.uses.drop (i+1):=List.drop_eq_getElem_cons hlt;have hw:IntKind.i64.wrap ((i:Int)+1)=((i+1:Nat):Int):=aV ZL;have hix:=oO (l:=m.uses) (n:=(i:Int)) ZL h1;rw[Xw,Xv m.uses i hlt]at hix;have ih':=fun s=>ih (i+1) ZL ZL (seen++[s]) (h.set q [.tup (setRow (seen++[s]))]);have hql:q<h.length:=(Xx.1 hq).1;rw[h2];generalize m.uses[i]=s at hix |-;have hlk:=ux hq s;have hnm:=t92 s;generalize hcode:ak (L41_1 (af pg) ak) [.ip (aa m.av),.mp q,strs m.uses,.int .i64 m.uses.length,.int .i64 i] h=code;rw[FL41_1]at hcode;simp -implicitDefEqProofs only[L41_1,ao,au,aB,ae,h1,XP,ai,XA,hix,mf,LD9]at hcode;rw[j0 hlk]at hcode;have eo:HP seen (s:: m.uses.drop (i+1))=(!(seen.contains s)&&cr s&&HP (seen++[s]) (m.uses.drop (i+1))):=rfl;rw[eo];cases hc:seen.contains s with
  |true=>
   rw[hc]at hcode;refine⟨h,?_⟩;rw[<- hcode];simp[am]
  | false=>
   rw[hc]at hcode;cases hn2:cr s with
   |false=>rw[hn2]at hnm;refine⟨h,?_⟩;rw[<- hcode];simp[hnm,am]
   |true=>
    rw[hn2]at hnm;obtain⟨h',e'⟩:=ih' s ZN;refine⟨h',?_⟩;have hp:=yG hq s hc;rw[<- hcode];have e'':=e';simp only[eW]at e'';simp[hnm]
    grind [j0]
theorem t41(m:Ap.Mod)(hm:m.Lim):af pg 41 [m.av]=am (.bool (ib m)):=by
 have hend:∀h:Hp,∃h',ak (L41_1 (af pg) ak) [.ip (aa m.av),.mp 0,strs m.uses,.int .i64 m.uses.length,.int .i64 m.uses.length] h= .ok (.bool (rZ [] m.funcs&&xp m)) h':=fun h=>by
  have h1:¬((m.uses.length:Int)<(m.uses.length:Int)):=ZL
  obtain⟨h',e⟩:=JZ m hm h.length (xp m) (fun h=>Q0 m hm _ h) m.funcs.length 0 rfl (XJ _) [] (h++[[.tup []]]) (by simp[setRow]);rw[XG]at e;refine⟨h',?_⟩;rw[FL41_1];have hn:fW h= .ok (.mp h.length) (h++[[.tup []]]):=rfl;simp only[eW]at e;simp -implicitDefEqProofs only[L41_1,ao,au,aB,ae,h1,YJ,ai,Xo,Xu];rw[j0 hn];simp_all
 obtain⟨h',e⟩:=J0 m hm 0 _ hend m.uses.length 0 rfl (XJ _) [] ([]++[[.tup []]]) rfl;rw[XG]at e;rw[C41];funext hp;have key:S41 (af pg) ak (cl aE m.av) []= .ok (.bool (ib m)) h':=by
  have hn:fW []= .ok (.mp 0) ([]++[[.tup []]]):=rfl;simp only[eW]at e;rw[xY];simp -implicitDefEqProofs only[S41];rw[j0 hn];simp only[eW,FA53_1,XK,XG,ae,LD31,gW];exact e
 show be _ hp=R.ok (.bool (ib m)) hp;unfold be;rw[key];rfl
end Go.Proofs.YtbndmpiddinalaaGreatDoor
