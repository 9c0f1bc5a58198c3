/- What the functions compute, part 1. Conditions: bounds. -/
import Derived.Ground.NamesProg
import Derived.Shelf.LaysM
import Derived.Shelf.Strconv.Itoa3
import Derived.Shelf.Strings.Search3
import Derived.Test.YtihmmkncokjbaaaGreatDoorProg
import Derived.Test.YtihmmkncokjbaaaGreatDoorLc
import Derived.Shelf.LaysC
import Derived.Shelf.Strconv.AtoiAll
import Derived.Shelf.Strings.OnBuilder
import Derived.Shelf.SlGeneric
import Derived.Ground.SlgfProg
import Derived.Shelf.SlicesE.IndexFunc
import Derived.Lib.ConvBytes
import Derived.Lib.AtoiErrMem
import Derived.Tactics
import Derived.Tactics2
import Derived.Defers
import Derived.Recover
set_option linter.defProp false
set_option linter.unusedSimpArgs false
set_option linter.unusedVariables false
namespace Go.Proofs
open Go.Shelf
def FN:Go.Shelf.Ren:=⟨fun|171=>50|243=>87|246=>137|283=>176|284=>177|285=>178|286=>179|129=>226|317=>225|318=>227|319=>228|320=>229|337=>250|338=>251|n=>n,fun|3=>3|9=>9|2=>2|4=>4|171=>205|0=>0|53=>206|37=>119|5=>5|173=>209|212=>244|51=>245|20=>20|213=>246|46=>189|232=>269|233=>270|n=>n,fun|17=>0|18=>4|19=>5|n=>n⟩
def FU:Go.Proofs.LaysM.n171 Tryz.prog FN:={
 mixed:=by kernel_rfl
 f129:=Tryz.func226.trans (Gb some (by kernel_rfl))
 f171:=Tryz.func50.trans (Gb some (by kernel_rfl))
 f243:=Tryz.func87.trans (Gb some (by kernel_rfl))
 f246:=Tryz.func137.trans (Gb some (by kernel_rfl))
 f283:=Tryz.func176.trans (Gb some (by kernel_rfl))
 f284:=Tryz.func177.trans (Gb some (by kernel_rfl))
 f285:=Tryz.func178.trans (Gb some (by kernel_rfl))
 f286:=Tryz.func179.trans (Gb some (by kernel_rfl))
 f317:=Tryz.func225.trans (Gb some (by kernel_rfl))
 f318:=Tryz.func227.trans (Gb some (by kernel_rfl))
 f319:=Tryz.func228.trans (Gb some (by kernel_rfl))
 f320:=Tryz.func229.trans (Gb some (by kernel_rfl))
 f337:=Tryz.func250.trans (Gb some (by kernel_rfl))
 f338:=Tryz.func251.trans (Gb some (by kernel_rfl))
 t0:=Tryz.underlying0
 a0:=Tryz.isAgg0
 z0:=Tryz.sizeOf0
 v0:=Tryz.zeroValue0
 t2:=Tryz.underlying2
 a2:=Tryz.isAgg2
 z2:=Tryz.sizeOf2
 v2:=Tryz.zeroValue2
 t3:=Tryz.underlying3
 a3:=Tryz.isAgg3
 z3:=Tryz.sizeOf3
 v3:=Tryz.zeroValue3
 t4:=Tryz.underlying4
 a4:=Tryz.isAgg4
 z4:=Tryz.sizeOf4
 v4:=Tryz.zeroValue4
 t5:=Tryz.underlying5
 a5:=Tryz.isAgg5
 z5:=Tryz.sizeOf5
 v5:=Tryz.zeroValue5
 t9:=Tryz.underlying9
 a9:=Tryz.isAgg9
 z9:=Tryz.sizeOf9
 v9:=Tryz.zeroValue9
 t20:=Tryz.underlying20
 a20:=Tryz.isAgg20
 z20:=Tryz.sizeOf20
 v20:=Tryz.zeroValue20
 t37:=Tryz.underlying119
 a37:=Tryz.isAgg119
 z37:=Tryz.sizeOf119
 v37:=Tryz.zeroValue119
 t46:=Tryz.underlying189
 a46:=Tryz.isAgg189
 z46:=Tryz.sizeOf189
 v46:=Tryz.zeroValue189
 t51:=Tryz.underlying245
 a51:=Tryz.isAgg245
 z51:=Tryz.sizeOf245
 v51:=Tryz.zeroValue245
 t53:=Tryz.underlying206
 a53:=Tryz.isAgg206
 z53:=Tryz.sizeOf206
 v53:=Tryz.zeroValue206
 t171:=Tryz.underlying205
 a171:=Tryz.isAgg205
 z171:=Tryz.sizeOf205
 v171:=Tryz.zeroValue205
 t173:=Tryz.underlying209
 a173:=Tryz.isAgg209
 z173:=Tryz.sizeOf209
 v173:=Tryz.zeroValue209
 t212:=Tryz.underlying244
 a212:=Tryz.isAgg244
 z212:=Tryz.sizeOf244
 v212:=Tryz.zeroValue244
 t213:=Tryz.underlying246
 a213:=Tryz.isAgg246
 z213:=Tryz.sizeOf246
 t232:=Tryz.underlying269
 a232:=Tryz.isAgg269
 z232:=Tryz.sizeOf269
 v232:=Tryz.zeroValue269
 t233:=Tryz.underlying270
 a233:=Tryz.isAgg270
 z233:=Tryz.sizeOf270
 v233:=Tryz.zeroValue270
 g17:=by kernel_rfl
 g18:=by kernel_rfl
 g19:=by kernel_rfl
 i0:=by kernel_rfl
 i2:=by kernel_rfl
 i3:=by kernel_rfl
 i4:=by kernel_rfl
 i5:=by kernel_rfl
 i9:=by kernel_rfl
 i20:=by kernel_rfl
 i37:=by kernel_rfl
 i46:=by kernel_rfl
 i51:=by kernel_rfl
 i53:=by kernel_rfl
 i171:=by kernel_rfl
 i173:=by kernel_rfl
 i212:=by kernel_rfl
 i232:=by kernel_rfl
 i233:=by kernel_rfl
 m17:=by kernel_rfl
 m18:=by kernel_rfl
 m19:=by kernel_rfl }
def FP:Go.Shelf.Ren:=⟨fun|144=>159|143=>209|219=>246|217=>255|225=>239|224=>238|267=>260|266=>263|314=>266|n=>n,fun|9=>9|4=>4|3=>3|5=>5|46=>189|146=>275|51=>245|n=>n,fun|1=>1|n=>n⟩
def FX:Go.Proofs.Lays.n144 Tryz.prog FP:={
 mixed:=by kernel_rfl
 f143:=Tryz.func209.trans (Gb some (by kernel_rfl))
 f144:=Tryz.func159.trans (Gb some (by kernel_rfl))
 f217:=Tryz.func255.trans (Gb some (by kernel_rfl))
 f219:=Tryz.func246.trans (Gb some (by kernel_rfl))
 f224:=Tryz.func238.trans (Gb some (by kernel_rfl))
 f225:=Tryz.func239.trans (Gb some (by kernel_rfl))
 f266:=Tryz.func263.trans (Gb some (by kernel_rfl))
 f267:=Tryz.func260.trans (Gb some (by kernel_rfl))
 f314:=Tryz.func266.trans (Gb some (by kernel_rfl))
 t3:=Tryz.underlying3
 a3:=Tryz.isAgg3
 z3:=Tryz.sizeOf3
 v3:=Tryz.zeroValue3
 t4:=Tryz.underlying4
 a4:=Tryz.isAgg4
 z4:=Tryz.sizeOf4
 v4:=Tryz.zeroValue4
 t5:=Tryz.underlying5
 a5:=Tryz.isAgg5
 z5:=Tryz.sizeOf5
 v5:=Tryz.zeroValue5
 t9:=Tryz.underlying9
 a9:=Tryz.isAgg9
 z9:=Tryz.sizeOf9
 v9:=Tryz.zeroValue9
 t46:=Tryz.underlying189
 a46:=Tryz.isAgg189
 z46:=Tryz.sizeOf189
 v46:=Tryz.zeroValue189
 t51:=Tryz.underlying245
 a51:=Tryz.isAgg245
 z51:=Tryz.sizeOf245
 v51:=Tryz.zeroValue245
 t146:=Tryz.underlying275
 a146:=Tryz.isAgg275
 z146:=Tryz.sizeOf275
 v146:=Tryz.zeroValue275
 g1:=by kernel_rfl }
end Go.Proofs
namespace Go.Proofs.YtihmmkncokjbaaaGreatDoor
open Go Go.Av Go.Av.Ap
abbrev CC:=FuncId->List AV->M AV
abbrev RR:=List AV->M AV
def lb{α β:Type}{m:M α}{f:α->M β}{fs:Nat->α->M β}(hf:bp f fs):bV (af m f) fun n=>af m (fs n):=bV.bnd (bu _) hf
abbrev vN(l:List Nat):List (Nat×Option Nat):=l.map fun x=>(x,none)
abbrev tF:TI:=TI.mk false 1 8 .func [] [.nilf] false
noncomputable def tab:List (Nat×TI):=[
(0,(TI.mk false 1 0 .other [] [.any] false)),
(1,tF),
(2,(TI.mk false 1 8 (.int .i64) [] [.int .i64 0] false)),
(3,(TI.mk false 1 8 (.int .i64) [] [.int .i64 0] false)),
(4,(TI.mk false 1 1 .bool [] [.bool false] false)),
(5,(TI.mk false 1 1 (.int .u8) [] [.int .u8 0] false)),
(6,(TI.mk false 1 1 (.int .u8) [] [.int .u8 0] false)),
(7,(TI.mk true 4 24 .struct [(0,((2,true))),(1,((3,true))),(2,((4,true))),(3,((6,true)))] [.int .i64 0,.int .i64 0,.bool false,.int .u8 0] true)),
(8,(TI.mk true 4 24 .struct [(0,((2,true))),(1,((3,true))),(2,((4,true))),(3,((6,true)))] [.int .i64 0,.int .i64 0,.bool false,.int .u8 0] true)),
(9,(TI.mk false 1 16 .str [] [.str []] false)),
(10,(TI.mk false 1 16 .str [] [.str []] false)),
(11,(TI.mk false 1 16 .str [] [.str []] false)),
(12,(TI.mk false 1 8 (.int .u64) [] [.int .u64 0] false)),
(13,(TI.mk true 2 24 .struct [(0,((9,true))),(1,((12,true)))] [.str [],.int .u64 0] false)),
(14,(TI.mk true 2 24 .struct [(0,((9,true))),(1,((12,true)))] [.str [],.int .u64 0] false)),
(15,(TI.mk false 1 8 .ptr [] [.nilp] false)),
(16,(TI.mk false 1 8 .ptr [] [.nilp] false)),
(17,(TI.mk false 1 8 .ptr [] [.nilp] false)),
(18,(TI.mk true 1 8 .struct [(0,((17,true)))] [.nilp] false)),
(19,(TI.mk true 1 8 .struct [(0,((17,true)))] [.nilp] false)),
(20,(TI.mk false 1 16 .iface [] [.nili] false)),
(21,(TI.mk false 1 4 (.int .i32) [] [.int .i32 0] false)),
(22,(TI.mk false 1 24 (.slice 9) [] [.sl []] false)),
(23,(TI.mk false 1 24 (.slice 37) [] [.sl []] false)),
(24,(TI.mk false 1 24 (.slice 66) [] [.sl []] false)),
(25,(TI.mk false 1 24 (.slice 68) [] [.sl []] false)),
(26,(TI.mk true 3 72 .struct [(0,((23,true))),(1,((24,true))),(2,((24,true)))] [.sl [],.sl [],.sl []] true)),
(27,(TI.mk true 3 72 .struct [(0,((23,true))),(1,((24,true))),(2,((24,true)))] [.sl [],.sl [],.sl []] true)),
(28,(TI.mk true 9 192 .struct [(0,((9,true))),(1,((22,true))),(2,((23,true))),(3,((24,true))),(4,((25,true))),(5,((4,true))),(6,((27,true)))] [.str [],.sl [],.sl [],.sl [],.sl [],.bool false,.sl [],.sl [],.sl []] true)),
(29,(TI.mk true 9 192 .struct [(0,((9,true))),(1,((22,true))),(2,((23,true))),(3,((24,true))),(4,((25,true))),(5,((4,true))),(6,((27,true)))] [.str [],.sl [],.sl [],.sl [],.sl [],.bool false,.sl [],.sl [],.sl []] true)),
(30,(TI.mk false 1 24 (.slice 45) [] [.sl []] false)),
(31,tF),
(32,tF),
(33,tF),
(34,(TI.mk true 2 32 .struct [(0,((3,true))),(1,((23,true)))] [.int .i64 0,.sl []] true)),
(35,(TI.mk true 2 32 .struct [(0,((3,true))),(1,((23,true)))] [.int .i64 0,.sl []] true)),
(36,(TI.mk true 3 48 .struct [(0,((9,true))),(1,((35,true)))] [.str [],.int .i64 0,.sl []] true)),
(37,(TI.mk true 3 48 .struct [(0,((9,true))),(1,((35,true)))] [.str [],.int .i64 0,.sl []] true)),
(38,tF),
(39,(TI.mk false 1 8 (.int .i64) [] [.int .i64 0] false)),
(40,(TI.mk false 1 0 .other [] [.any] false)),
(41,tF),
(42,tF),
(43,tF),
(44,(TI.mk true 4 64 .struct [(0,((3,true))),(1,((3,true))),(2,((22,true))),(3,((30,true)))] [.int .i64 0,.int .i64 0,.sl [],.sl []] true)),
(45,(TI.mk true 4 64 .struct [(0,((3,true))),(1,((3,true))),(2,((22,true))),(3,((30,true)))] [.int .i64 0,.int .i64 0,.sl [],.sl []] true)),
(46,tF),
(47,(TI.mk false 1 24 (.slice 35) [] [.sl []] false)),
(48,tF),
(49,tF),
(50,(TI.mk false 1 0 .other [] [.any] false)),
(51,tF),
(52,tF),
(53,tF),
(54,tF),
(55,tF),
(56,tF),
(57,tF),
(58,tF),
(59,tF),
(60,(TI.mk false 1 0 .other [] [.any] false)),
(61,tF),
(62,tF),
(63,(TI.mk false 1 0 .other [] [.any] false)),
(64,tF),
(65,(TI.mk true 6 96 .struct [(0,((3,true))),(1,((3,true))),(2,((9,true))),(3,((9,true))),(4,((22,true))),(5,((24,true)))] [.int .i64 0,.int .i64 0,.str [],.str [],.sl [],.sl []] true)),
(66,(TI.mk true 6 96 .struct [(0,((3,true))),(1,((3,true))),(2,((9,true))),(3,((9,true))),(4,((22,true))),(5,((24,true)))] [.int .i64 0,.int .i64 0,.str [],.str [],.sl [],.sl []] true)),
(67,(TI.mk true 12 184 .struct [(0,((9,true))),(1,((4,true))),(2,((23,true))),(3,((35,true))),(5,((3,true))),(6,((66,true)))] [.str [],.bool false,.sl [],.int .i64 0,.sl [],.int .i64 0,.int .i64 0,.int .i64 0,.str [],.str [],.sl [],.sl []] true)),
(68,(TI.mk true 12 184 .struct [(0,((9,true))),(1,((4,true))),(2,((23,true))),(3,((35,true))),(5,((3,true))),(6,((66,true)))] [.str [],.bool false,.sl [],.int .i64 0,.sl [],.int .i64 0,.int .i64 0,.int .i64 0,.str [],.str [],.sl [],.sl []] true)),
(69,tF),
(70,tF),
(71,tF),
(72,tF),
(73,tF),
(74,tF),
(75,tF),
(76,tF),
(77,tF),
(78,tF),
(79,tF),
(80,(TI.mk true 0 0 .struct [] [] true)),
(81,(TI.mk true 0 0 .struct [] [] true)),
(82,(TI.mk false 1 0 .other [] [.any] false)),
(83,(TI.mk false 1 8 .ptr [] [.nilp] false)),
(84,(TI.mk true 1 16 .struct [(0,((9,true)))] [.str []] true)),
(85,(TI.mk true 1 16 .struct [(0,((9,true)))] [.str []] true)),
(86,tF),
(87,(TI.mk false 1 0 .other [] [.any] false)),
(88,tF),
(89,(TI.mk false 1 24 (.slice 94) [] [.sl []] false)),
(90,(TI.mk false 1 0 .other [] [.any] false)),
(91,tF),
(92,(TI.mk false 1 24 (.slice 29) [] [.sl []] false)),
(93,(TI.mk true 2 40 .struct [(0,((9,true))),(1,((30,true)))] [.str [],.sl []] true)),
(94,(TI.mk true 2 40 .struct [(0,((9,true))),(1,((30,true)))] [.str [],.sl []] true)),
(95,tF),
(96,tF),
(97,(TI.mk false 1 24 (.slice 103) [] [.sl []] false)),
(98,(TI.mk false 1 8 .ptr [] [.nilp] false)),
(99,(TI.mk false 1 0 .other [] [.any] false)),
(100,tF),
(101,(TI.mk false 1 24 (.slice 145) [] [.sl []] false)),
(102,(TI.mk true 2 40 .struct [(0,((9,true))),(1,((101,true)))] [.str [],.sl []] true)),
(103,(TI.mk true 2 40 .struct [(0,((9,true))),(1,((101,true)))] [.str [],.sl []] true)),
(104,(TI.mk false 1 0 .other [] [.any] false)),
(105,(TI.mk false 1 8 (.map 9 103) [] [.nilm] false)),
(106,(TI.mk true 11 208 .struct [(0,((29,true))),(9,((105,true))),(10,((3,true)))] [.str [],.sl [],.sl [],.sl [],.sl [],.bool false,.sl [],.sl [],.sl [],.nilm,.int .i64 0] true)),
(107,(TI.mk true 11 208 .struct [(0,((29,true))),(9,((105,true))),(10,((3,true)))] [.str [],.sl [],.sl [],.sl [],.sl [],.bool false,.sl [],.sl [],.sl [],.nilm,.int .i64 0] true)),
(108,tF),
(109,(TI.mk false 1 0 .other [] [.any] false)),
(110,tF),
(111,tF),
(112,tF),
(113,tF),
(114,tF),
(115,tF),
(116,tF),
(117,tF),
(118,(TI.mk false 1 8 .ptr [] [.nilp] false)),
(119,(TI.mk false 1 24 (.slice 5) [] [.sl []] false)),
(120,(TI.mk true 2 32 .struct [(0,((118,true))),(1,((119,true)))] [.nilp,.sl []] true)),
(121,(TI.mk true 2 32 .struct [(0,((118,true))),(1,((119,true)))] [.nilp,.sl []] true)),
(122,tF),
(123,(TI.mk false 1 16 .iface [] [.nili] false)),
(124,(TI.mk false 1 16 .iface [] [.nili] false)),
(125,(TI.mk false 1 0 .other [] [.any] false)),
(126,tF),
(127,tF),
(128,tF),
(129,tF),
(130,tF),
(131,tF),
(132,tF),
(133,tF),
(134,(TI.mk false 1 0 .other [] [.any] false)),
(135,tF),
(136,tF),
(137,tF),
(138,tF),
(139,tF),
(140,tF),
(141,tF),
(142,tF),
(143,tF),
(144,(TI.mk true 5 80 .struct [(0,((9,true))),(1,((47,true))),(2,((35,true))),(4,((3,true)))] [.str [],.sl [],.int .i64 0,.sl [],.int .i64 0] true)),
(145,(TI.mk true 5 80 .struct [(0,((9,true))),(1,((47,true))),(2,((35,true))),(4,((3,true)))] [.str [],.sl [],.int .i64 0,.sl [],.int .i64 0] true)),
(146,tF),
(147,(TI.mk false 1 8 (.map 9 4) [] [.nilm] false)),
(148,tF),
(149,tF),
(150,tF),
(151,tF),
(152,tF),
(153,(TI.mk false 1 0 .other [] [.any] false)),
(154,tF),
(155,tF),
(156,tF),
(157,(TI.mk false 1 8 .ptr [] [.nilp] false)),
(158,(TI.mk false 1 24 (.slice 3) [] [.sl []] false)),
(159,(TI.mk false 1 24 (.slice 242) [] [.sl []] false)),
(160,(TI.mk false 1 24 (.slice 260) [] [.sl []] false)),
(161,(TI.mk true 8 144 .struct [(0,((39,true))),(1,((45,true))),(5,((159,true))),(6,((160,true))),(7,((89,true)))] [.int .i64 0,.int .i64 0,.int .i64 0,.sl [],.sl [],.sl [],.sl [],.sl []] true)),
(162,(TI.mk true 8 144 .struct [(0,((39,true))),(1,((45,true))),(5,((159,true))),(6,((160,true))),(7,((89,true)))] [.int .i64 0,.int .i64 0,.int .i64 0,.sl [],.sl [],.sl [],.sl [],.sl []] true)),
(163,(TI.mk true 12 208 .struct [(0,((92,true))),(1,((158,true))),(2,((3,true))),(3,((3,true))),(4,((162,true)))] [.sl [],.sl [],.int .i64 0,.int .i64 0,.int .i64 0,.int .i64 0,.int .i64 0,.sl [],.sl [],.sl [],.sl [],.sl []] true)),
(164,(TI.mk true 12 208 .struct [(0,((92,true))),(1,((158,true))),(2,((3,true))),(3,((3,true))),(4,((162,true)))] [.sl [],.sl [],.int .i64 0,.int .i64 0,.int .i64 0,.int .i64 0,.int .i64 0,.sl [],.sl [],.sl [],.sl [],.sl []] true)),
(165,tF),
(166,tF),
(167,(TI.mk true 3 56 .struct [(0,((3,true))),(1,((22,true))),(2,((30,true)))] [.int .i64 0,.sl [],.sl []] true)),
(168,(TI.mk true 3 56 .struct [(0,((3,true))),(1,((22,true))),(2,((30,true)))] [.int .i64 0,.sl [],.sl []] true)),
(169,tF),
(170,tF),
(171,tF),
(172,(TI.mk false 1 8 .ptr [] [.nilp] false)),
(173,(TI.mk false 1 0 .other [] [.any] false)),
(174,tF),
(175,tF),
(176,tF),
(177,tF),
(178,tF),
(179,tF),
(180,(TI.mk false 1 8 .ptr [] [.nilp] false)),
(181,(TI.mk true 13 216 .struct [(0,((92,true))),(1,((162,true))),(9,((158,true))),(10,((3,true))),(11,((3,true))),(12,((3,true)))] [.sl [],.int .i64 0,.int .i64 0,.int .i64 0,.sl [],.sl [],.sl [],.sl [],.sl [],.sl [],.int .i64 0,.int .i64 0,.int .i64 0] true)),
(182,(TI.mk true 13 216 .struct [(0,((92,true))),(1,((162,true))),(9,((158,true))),(10,((3,true))),(11,((3,true))),(12,((3,true)))] [.sl [],.int .i64 0,.int .i64 0,.int .i64 0,.sl [],.sl [],.sl [],.sl [],.sl [],.sl [],.int .i64 0,.int .i64 0,.int .i64 0] true)),
(183,tF),
(184,(TI.mk true 3 56 .struct [(0,((3,true))),(1,((22,true))),(2,((30,true)))] [.int .i64 0,.sl [],.sl []] true)),
(185,(TI.mk true 3 56 .struct [(0,((3,true))),(1,((22,true))),(2,((30,true)))] [.int .i64 0,.sl [],.sl []] true)),
(186,tF),
(187,tF),
(188,tF),
(189,(TI.mk false 1 8 (.int .u64) [] [.int .u64 0] false)),
(190,tF),
(191,tF),
(192,tF),
(193,tF),
(194,tF),
(195,(TI.mk false 1 0 .other [] [.any] false)),
(196,tF),
(197,tF),
(198,tF),
(199,tF),
(200,tF),
(201,tF),
(202,tF),
(203,tF),
(204,tF),
(205,(TI.mk true 24 24 (.array 24 5) [] [.int .u8 0,.int .u8 0,.int .u8 0,.int .u8 0,.int .u8 0,.int .u8 0,.int .u8 0,.int .u8 0,.int .u8 0,.int .u8 0,.int .u8 0,.int .u8 0,.int .u8 0,.int .u8 0,.int .u8 0,.int .u8 0,.int .u8 0,.int .u8 0,.int .u8 0,.int .u8 0,.int .u8 0,.int .u8 0,.int .u8 0,.int .u8 0] false)),
(206,(TI.mk false 1 8 (.int .u64) [] [.int .u64 0] false)),
(207,tF),
(208,tF),
(209,(TI.mk false 1 0 .other [] [.any] false)),
(210,tF),
(211,(TI.mk false 1 8 .other [] [.nilp] false)),
(212,tF),
(213,tF),
(214,tF),
(215,tF),
(216,(TI.mk true 256 256 (.array 256 4) [] [.bool false,.bool false,.bool false,.bool false,.bool false,.bool false,.bool false,.bool false,.bool false,.bool false,.bool false,.bool false,.bool false,.bool false,.bool false,.bool false,.bool false,.bool false,.bool false,.bool false,.bool false,.bool false,.bool false,.bool false,.bool false,.bool false,.bool false,.bool false,.bool false,.bool false,.bool false,.bool false,.bool false,.bool false,.bool false,.bool false,.bool false,.bool false,.bool false,.bool false,.bool false,.bool false,.bool false,.bool false,.bool false,.bool false,.bool false,.bool false,.bool false,.bool false,.bool false,.bool false,.bool false,.bool false,.bool false,.bool false,.bool false,.bool false,.bool false,.bool false,.bool false,.bool false,.bool false,.bool false,.bool false,.bool false,.bool false,.bool false,.bool false,.bool false,.bool false,.bool false,.bool false,.bool false,.bool false,.bool false,.bool false,.bool false,.bool false,.bool false,.bool false,.bool false,.bool false,.bool false,.bool false,.bool false,.bool false,.bool false,.bool false,.bool false,.bool false,.bool false,.bool false,.bool false,.bool false,.bool false,.bool false,.bool false,.bool false,.bool false,.bool false,.bool false,.bool false,.bool false,.bool false,.bool false,.bool false,.bool false,.bool false,.bool false,.bool false,.bool false,.bool false,.bool false,.bool false,.bool false,.bool false,.bool false,.bool false,.bool false,.bool false,.bool false,.bool false,.bool false,.bool false,.bool false,.bool false,.bool false,.bool false,.bool false,.bool false,.bool false,.bool false,.bool false,.bool false,.bool false,.bool false,.bool false,.bool false,.bool false,.bool false,.bool false,.bool false,.bool false,.bool false,.bool false,.bool false,.bool false,.bool false,.bool false,.bool false,.bool false,.bool false,.bool false,.bool false,.bool false,.bool false,.bool false,.bool false,.bool false,.bool false,.bool false,.bool false,.bool false,.bool false,.bool false,.bool false,.bool false,.bool false,.bool false,.bool false,.bool false,.bool false,.bool false,.bool false,.bool false,.bool false,.bool false,.bool false,.bool false,.bool false,.bool false,.bool false,.bool false,.bool false,.bool false,.bool false,.bool false,.bool false,.bool false,.bool false,.bool false,.bool false,.bool false,.bool false,.bool false,.bool false,.bool false,.bool false,.bool false,.bool false,.bool false,.bool false,.bool false,.bool false,.bool false,.bool false,.bool false,.bool false,.bool false,.bool false,.bool false,.bool false,.bool false,.bool false,.bool false,.bool false,.bool false,.bool false,.bool false,.bool false,.bool false,.bool false,.bool false,.bool false,.bool false,.bool false,.bool false,.bool false,.bool false,.bool false,.bool false,.bool false,.bool false,.bool false,.bool false,.bool false,.bool false,.bool false,.bool false,.bool false,.bool false,.bool false,.bool false,.bool false,.bool false,.bool false,.bool false,.bool false,.bool false,.bool false,.bool false,.bool false,.bool false,.bool false,.bool false] false)),
(217,(TI.mk true 256 256 (.array 256 4) [] [.bool false,.bool false,.bool false,.bool false,.bool false,.bool false,.bool false,.bool false,.bool false,.bool false,.bool false,.bool false,.bool false,.bool false,.bool false,.bool false,.bool false,.bool false,.bool false,.bool false,.bool false,.bool false,.bool false,.bool false,.bool false,.bool false,.bool false,.bool false,.bool false,.bool false,.bool false,.bool false,.bool false,.bool false,.bool false,.bool false,.bool false,.bool false,.bool false,.bool false,.bool false,.bool false,.bool false,.bool false,.bool false,.bool false,.bool false,.bool false,.bool false,.bool false,.bool false,.bool false,.bool false,.bool false,.bool false,.bool false,.bool false,.bool false,.bool false,.bool false,.bool false,.bool false,.bool false,.bool false,.bool false,.bool false,.bool false,.bool false,.bool false,.bool false,.bool false,.bool false,.bool false,.bool false,.bool false,.bool false,.bool false,.bool false,.bool false,.bool false,.bool false,.bool false,.bool false,.bool false,.bool false,.bool false,.bool false,.bool false,.bool false,.bool false,.bool false,.bool false,.bool false,.bool false,.bool false,.bool false,.bool false,.bool false,.bool false,.bool false,.bool false,.bool false,.bool false,.bool false,.bool false,.bool false,.bool false,.bool false,.bool false,.bool false,.bool false,.bool false,.bool false,.bool false,.bool false,.bool false,.bool false,.bool false,.bool false,.bool false,.bool false,.bool false,.bool false,.bool false,.bool false,.bool false,.bool false,.bool false,.bool false,.bool false,.bool false,.bool false,.bool false,.bool false,.bool false,.bool false,.bool false,.bool false,.bool false,.bool false,.bool false,.bool false,.bool false,.bool false,.bool false,.bool false,.bool false,.bool false,.bool false,.bool false,.bool false,.bool false,.bool false,.bool false,.bool false,.bool false,.bool false,.bool false,.bool false,.bool false,.bool false,.bool false,.bool false,.bool false,.bool false,.bool false,.bool false,.bool false,.bool false,.bool false,.bool false,.bool false,.bool false,.bool false,.bool false,.bool false,.bool false,.bool false,.bool false,.bool false,.bool false,.bool false,.bool false,.bool false,.bool false,.bool false,.bool false,.bool false,.bool false,.bool false,.bool false,.bool false,.bool false,.bool false,.bool false,.bool false,.bool false,.bool false,.bool false,.bool false,.bool false,.bool false,.bool false,.bool false,.bool false,.bool false,.bool false,.bool false,.bool false,.bool false,.bool false,.bool false,.bool false,.bool false,.bool false,.bool false,.bool false,.bool false,.bool false,.bool false,.bool false,.bool false,.bool false,.bool false,.bool false,.bool false,.bool false,.bool false,.bool false,.bool false,.bool false,.bool false,.bool false,.bool false,.bool false,.bool false,.bool false,.bool false,.bool false,.bool false,.bool false,.bool false,.bool false,.bool false,.bool false,.bool false,.bool false,.bool false,.bool false,.bool false,.bool false,.bool false,.bool false,.bool false,.bool false,.bool false] false)),
(218,(TI.mk false 1 0 .other [] [.any] false)),
(219,tF),
(220,tF),
(221,tF),
(222,tF),
(223,tF),
(224,tF),
(225,tF),
(226,tF),
(227,(TI.mk false 1 0 .other [] [.any] false)),
(228,tF),
(229,tF),
(230,tF),
(231,tF),
(232,tF),
(233,tF),
(234,tF),
(235,tF),
(236,tF),
(237,tF),
(238,(TI.mk false 1 0 .other [] [.any] false)),
(239,tF),
(240,tF),
(241,(TI.mk true 3 24 .struct [(0,((3,true))),(1,((3,true))),(2,((3,true)))] [.int .i64 0,.int .i64 0,.int .i64 0] true)),
(242,(TI.mk true 3 24 .struct [(0,((3,true))),(1,((3,true))),(2,((3,true)))] [.int .i64 0,.int .i64 0,.int .i64 0] true)),
(243,tF),
(244,(TI.mk true 20 160 (.array 20 206) [] [.int .u64 0,.int .u64 0,.int .u64 0,.int .u64 0,.int .u64 0,.int .u64 0,.int .u64 0,.int .u64 0,.int .u64 0,.int .u64 0,.int .u64 0,.int .u64 0,.int .u64 0,.int .u64 0,.int .u64 0,.int .u64 0,.int .u64 0,.int .u64 0,.int .u64 0,.int .u64 0] false)),
(245,(TI.mk false 1 4 (.int .u32) [] [.int .u32 0] false)),
(246,(TI.mk true 65 65 (.array 65 5) [] [.int .u8 0,.int .u8 0,.int .u8 0,.int .u8 0,.int .u8 0,.int .u8 0,.int .u8 0,.int .u8 0,.int .u8 0,.int .u8 0,.int .u8 0,.int .u8 0,.int .u8 0,.int .u8 0,.int .u8 0,.int .u8 0,.int .u8 0,.int .u8 0,.int .u8 0,.int .u8 0,.int .u8 0,.int .u8 0,.int .u8 0,.int .u8 0,.int .u8 0,.int .u8 0,.int .u8 0,.int .u8 0,.int .u8 0,.int .u8 0,.int .u8 0,.int .u8 0,.int .u8 0,.int .u8 0,.int .u8 0,.int .u8 0,.int .u8 0,.int .u8 0,.int .u8 0,.int .u8 0,.int .u8 0,.int .u8 0,.int .u8 0,.int .u8 0,.int .u8 0,.int .u8 0,.int .u8 0,.int .u8 0,.int .u8 0,.int .u8 0,.int .u8 0,.int .u8 0,.int .u8 0,.int .u8 0,.int .u8 0,.int .u8 0,.int .u8 0,.int .u8 0,.int .u8 0,.int .u8 0,.int .u8 0,.int .u8 0,.int .u8 0,.int .u8 0,.int .u8 0] false)),
(247,tF),
(248,(TI.mk false 1 8 (.int .i64) [] [.int .i64 0] false)),
(249,(TI.mk false 1 0 .other [] [.any] false)),
(250,tF),
(251,(TI.mk false 1 8 .ptr [] [.nilp] false)),
(252,tF),
(253,tF),
(254,tF),
(255,tF),
(256,(TI.mk false 1 8 .ptr [] [.nilp] false)),
(257,tF),
(258,tF),
(259,(TI.mk true 3 56 .struct [(0,((9,true))),(1,((9,true))),(2,((30,true)))] [.str [],.str [],.sl []] true)),
(260,(TI.mk true 3 56 .struct [(0,((9,true))),(1,((9,true))),(2,((30,true)))] [.str [],.str [],.sl []] true)),
(261,tF),
(262,(TI.mk false 1 0 .other [] [.any] false)),
(263,tF),
(264,(TI.mk true 3 48 .struct [(0,((9,true))),(1,((9,true))),(2,((124,true)))] [.str [],.str [],.nili] false)),
(265,(TI.mk true 3 48 .struct [(0,((9,true))),(1,((9,true))),(2,((124,true)))] [.str [],.str [],.nili] false)),
(266,tF),
(267,tF),
(268,tF),
(269,(TI.mk true 32 32 (.array 32 5) [] [.int .u8 0,.int .u8 0,.int .u8 0,.int .u8 0,.int .u8 0,.int .u8 0,.int .u8 0,.int .u8 0,.int .u8 0,.int .u8 0,.int .u8 0,.int .u8 0,.int .u8 0,.int .u8 0,.int .u8 0,.int .u8 0,.int .u8 0,.int .u8 0,.int .u8 0,.int .u8 0,.int .u8 0,.int .u8 0,.int .u8 0,.int .u8 0,.int .u8 0,.int .u8 0,.int .u8 0,.int .u8 0,.int .u8 0,.int .u8 0,.int .u8 0,.int .u8 0] false)),
(270,(TI.mk true 64 64 (.array 64 5) [] [.int .u8 0,.int .u8 0,.int .u8 0,.int .u8 0,.int .u8 0,.int .u8 0,.int .u8 0,.int .u8 0,.int .u8 0,.int .u8 0,.int .u8 0,.int .u8 0,.int .u8 0,.int .u8 0,.int .u8 0,.int .u8 0,.int .u8 0,.int .u8 0,.int .u8 0,.int .u8 0,.int .u8 0,.int .u8 0,.int .u8 0,.int .u8 0,.int .u8 0,.int .u8 0,.int .u8 0,.int .u8 0,.int .u8 0,.int .u8 0,.int .u8 0,.int .u8 0,.int .u8 0,.int .u8 0,.int .u8 0,.int .u8 0,.int .u8 0,.int .u8 0,.int .u8 0,.int .u8 0,.int .u8 0,.int .u8 0,.int .u8 0,.int .u8 0,.int .u8 0,.int .u8 0,.int .u8 0,.int .u8 0,.int .u8 0,.int .u8 0,.int .u8 0,.int .u8 0,.int .u8 0,.int .u8 0,.int .u8 0,.int .u8 0,.int .u8 0,.int .u8 0,.int .u8 0,.int .u8 0,.int .u8 0,.int .u8 0,.int .u8 0,.int .u8 0] false)),
(271,tF),
(272,(TI.mk false 1 8 .ptr [] [.nilp] false)),
(273,(TI.mk true 1 16 .struct [(0,((9,true)))] [.str []] true)),
(274,(TI.mk true 1 16 .struct [(0,((9,true)))] [.str []] true)),
(275,(TI.mk false 1 0 .other [] [.any] false)),
(276,tF),
(277,(TI.mk true 4 40 .struct [(0,((17,true))),(1,((17,true))),(2,((17,true))),(3,((9,true)))] [.nilp,.nilp,.nilp,.str []] false)),
(278,(TI.mk true 4 40 .struct [(0,((17,true))),(1,((17,true))),(2,((17,true))),(3,((9,true)))] [.nilp,.nilp,.nilp,.str []] false)),
(279,(TI.mk true 0 0 (.array 0 16) [] [] false)),
(280,(TI.mk true 0 0 .struct [(0,((279,false)))] [] false)),
(281,(TI.mk true 0 0 .struct [(0,((279,false)))] [] false)),
(282,tF),
(283,(TI.mk false 1 1 (.int .u8) [] [.int .u8 0] false)),
(284,(TI.mk false 1 1 (.int .u8) [] [.int .u8 0] false)),
(285,tF),
(286,(TI.mk false 1 4 (.int .i32) [] [.int .i32 0] false)),
(287,(TI.mk false 1 4 (.int .i32) [] [.int .i32 0] false)),
(288,(TI.mk true 11 48 .struct [(0,((12,true))),(1,((12,true))),(2,((245,true))),(3,((283,true))),(4,((5,true))),(5,((5,true))),(6,((284,true))),(7,((285,true))),(8,((172,true))),(9,((286,true))),(10,((287,true)))] [.int .u64 0,.int .u64 0,.int .u32 0,.int .u8 0,.int .u8 0,.int .u8 0,.int .u8 0,.nilf,.nilp,.int .i32 0,.int .i32 0] false)),
(289,(TI.mk true 11 48 .struct [(0,((12,true))),(1,((12,true))),(2,((245,true))),(3,((283,true))),(4,((5,true))),(5,((5,true))),(6,((284,true))),(7,((285,true))),(8,((172,true))),(9,((286,true))),(10,((287,true)))] [.int .u64 0,.int .u64 0,.int .u32 0,.int .u8 0,.int .u8 0,.int .u8 0,.int .u8 0,.nilf,.nilp,.int .i32 0,.int .i32 0] false))]
def sS:List (Nat×TI)->Nat->Option TI
 |[],_=>none
 |(k,x):: r,t=>bif Nat.beq k t then some x else sS r t
noncomputable def T:TT:=sS tab
def CU:Ann:={kinds:=[(10,.S),(12,.S)],no:=[17,22],nl:=[15,16,21,27,28,30,31,33,34,44,45,50,51,60,61,82,83],lw:=[10,12]}
def AO:Ann:={kinds:=[(1,.S),(2,.S),(3,.S),(4,.S),(6,.S),(8,.S),(10,.S)],no:=[13,16,19,22,36,39,47,49,54,56,64,105],nl:=[25,30,41,61,63,68,77,97,102,104,109,110,114,115],lw:=[1,2,3,4,6,8,9,10,51,58]}
def zn:Ann:={nl:=[17],loops:=[(0,{vals:=vN [0,3]})]}
def CG:Ann:={nl:=[10,16,19,21,27,28,32,34,38]}
def CH:Ann:={nl:=[10,16,19,21,27,28,32,34,38]}
def CI:Ann:={nl:=[11,12,20,21]}
def zo:Ann:={nl:=[13],loops:=[(0,{vals:=vN [0,3]})]}
def CJ:Ann:={no:=[40],nl:=[6,10,14,19,23,29,34,37],loops:=[(1,{vals:=[(1,none),(3,some 1),(23,none),(24,none),(25,none)]})]}
def zp:Ann:={nl:=[5,8,12,13]}
def zq:Ann:={nl:=[3]}
def CK:Ann:={nl:=[5,6]}
def zr:Ann:={nl:=[5,8,12,13]}
def zt:Ann:={kinds:=[(6,.S)],fz:=[20],nl:=[8,12,18,19,26,31],lw:=[4,6]}
def zu:Ann:={nl:=[6,10,15,16],lw:=[4]}
def CL:Ann:={nl:=[5,8,12,13]}
def zv:Ann:={nl:=[14,22,28,31,38,50,53],loops:=[(0,{vals:=vN [1,2,3,7,8]}),(2,{vals:=vN [1,2,3,7,9]})]}
def CM:Ann:={kinds:=[(6,.S)],nl:=[18,20,24],lw:=[6],loops:=[(0,{vals:=vN [1,12,13,14]})]}
def CN:Ann:={kinds:=[(10,.S)],no:=[38],nl:=[17,25,29,37],lw:=[10],loops:=[(0,{vals:=[(0,none),(2,none),(8,some 4),(12,none),(13,none),(14,none)]})]}
def CO:Ann:={kinds:=[(5,.S)],nl:=[7,9,12,17,20,26,28],lw:=[5]}
def CP:Ann:={kinds:=[(12,.S),(15,.S),(16,.S)],no:=[27,57],nl:=[23,26,36,41,51,52,56],lw:=[12,15,16],loops:=[(0,{vals:=[(1,none),(2,none),(3,none),(10,some 1),(18,none),(19,none),(20,none)]}),(2,{vals:=[(2,none),(3,none),(10,some 1),(13,some 4),(30,none),(31,none),(32,none)]})]}
def CQ:Ann:={kinds:=[(8,.S),(9,.S)],nl:=[21,25,27,28],lw:=[8,9],loops:=[(0,{vals:=vN [1,2,15,16,17]})]}
def zw:Ann:={nl:=[13,21,32,36,43,47],loops:=[(0,{vals:=vN [1,2,3,7,8]})]}
def zx:Ann:={nl:=[3]}
def CR:Ann:={}
def CS:Ann:={iso:=false,hb:=[5,17],no:=[47,55],lw:=[4,5,57,58],joins:=[(8,{vals:=vN [0,1,5000,5001,5002,5003],locs:=[(4,5000,0)],lbs:=[(5000,4)]}),(29,{vals:=[(0,none),(1,none),(5000,none),(5001,none),(5002,none),(5003,none),(6000,none),(6001,none),(6002,some 1),(6003,some 4)],locs:=[(4,5000,0),(5,6000,0)],lbs:=[(5000,4),(6000,4)]}),(41,{vals:=[(0,none),(1,none),(6,none),(5000,none),(5001,none),(5002,none),(5003,none),(6000,none),(6001,none),(6002,some 1),(6003,some 4)],locs:=[(4,5000,0),(5,6000,0)],lbs:=[(5000,4),(6000,4)]})],loops:=[(0,{vals:=[(0,none),(1,none),(5000,none),(5001,none),(5002,none),(5003,none),(6000,none),(6001,none),(6002,some 1),(6003,some 4)],locs:=[(4,5000,0),(5,6000,0)],lbs:=[(5000,4),(6000,4)]})],ords:=[(12,[0,1,2,3,4,5,6,7,8,9,13,10,11,12,14,15,16])],nils:=[(5,[2,3])]}
def zy:Ann:={nl:=[6,8,12]}
def zA:Ann:={nl:=[3]}
def CV:Ann:={nl:=[5,8,12,13]}
def zB:Ann:={nl:=[6,8,12]}
def zC:Ann:={iso:=false,kinds:=[(8,.S),(11,.S)],hl:=[56],ha:=[47],no:=[47],nl:=[14,16,19,22,27,32,42,44,56,58,68],lw:=[4,6,8,11,49],loops:=[(0,{vals:=vN [22,23,24,5000,5001,7000,7001],locs:=[(4,5000,0),(6,7000,0)],lbs:=[(5000,2),(7000,2)]})],ords:=[(10,[0,1,2,3,4,5,6,7,12,8,9,10,11,13,14])]}
def zD:Ann:={kinds:=[(8,.S),(9,.S),(11,.S)],hb:=[6,21],no:=[52],nl:=[14,16,20,23,28,31,33,40,41,49,50],lw:=[4,6,8,9,11,54],loops:=[(0,{vals:=[(3,none),(23,none),(24,none),(25,none),(5000,none),(5001,none),(7000,none),(7001,some 3)],locs:=[(4,5000,0),(6,7000,0)],lbs:=[(5000,2),(7000,2)]})],nils:=[(6,[1])]}
def CW:Ann:={nl:=[6,8,12,14]}
def zE:Ann:={nl:=[15],loops:=[(0,{vals:=vN [0,1,7,8]})]}
def CX:Ann:={nl:=[5,7]}
def CY:Ann:={kinds:=[(8,.S),(9,.S)],nl:=[21,25,27,28],lw:=[8,9],loops:=[(0,{vals:=vN [1,2,15,16,17]})]}
def CZ:Ann:={nl:=[6,8,12,14]}
def C0:Ann:={kinds:=[(8,.S),(20,.H)],hb:=[19],nl:=[9,11,15],lw:=[6,8]}
def zF:Ann:={nl:=[5,8,12,16,21,27,31,36,41,45,50,53,59,65,70]}
def C1:Ann:={}
def C2:Ann:={iso:=false,hl:=[11],nl:=[11]}
def C4:Ann:={lw:=[2],joins:=[(23,{vals:=vN [3,3000,3001,3002,3003],locs:=[(2,3000,0)],lbs:=[(3000,4)]})]}
def C5:Ann:={iso:=false,hl:=[10,18,23,30],nl:=[10,18,23,30],joins:=[(14,{vals:=vN [0,5]})]}
def zG:Ann:={}
def zH:Ann:={nl:=[6,8,14,16,19]}
def zI:Ann:={nl:=[15],loops:=[(0,{vals:=vN [0,1,7,8]})]}
def zJ:Ann:={kinds:=[(6,.S)],nl:=[11,16,21,27,31,37,43,45,53,55,60,66],lw:=[6],loops:=[(0,{vals:=vN [1,2,37,38,39]})]}
def Ah:Ann:={nl:=[6,8,12,14,19,21,26,28]}
def uX:Ann:={kinds:=[(4,.S)],nl:=[8,10,17,19],lw:=[4]}
def uY:Ann:={iso:=false,kinds:=[(5,.S)],hl:=[15],ha:=[25],hb:=[8],no:=[24],nl:=[7,10,15,19,21],lw:=[2,3,5,26],loops:=[(0,{vals:=vN [10,11,12,3000,3001,4000,4001],locs:=[(2,3000,0),(3,4000,0)],lbs:=[(3000,2),(4000,2)]})]}
def uZ:Ann:={iso:=false,hl:=[28,44],nl:=[28,44],loops:=[(0,{vals:=vN [0,1,2,8,9,10]})]}
def vd:Ann:={nl:=[7,12]}
def ve:Ann:={}
def Ai:Ann:={nl:=[6,8,12,14]}
def vf:Ann:={}
def Aj:Ann:={nl:=[3]}
def Ak:Ann:={iso:=false,nl:=[5,6,7,9],lw:=[4]}
def Al:Ann:={iso:=false,kinds:=[(9,.S)],hl:=[14,20],nl:=[14,20,25,35,42,46,51,55,60,66,74,77,79,82,85,94,96,98,100,103,105,107,114,116,118,121,125,129,131,133,139,141,143,150,152,154,157,159,161,164,166,168,173,175,177,179,181,185,187,192,193,198,200,202,205,207,210,218,221,225,226,229,230],lw:=[6,9],joins:=[(87,{vals:=vN [0,4,5,42,87,7000,7001,7002,7003],locs:=[(6,7000,0)],lbs:=[(7000,4)]}),(110,{vals:=vN [0,4,5,42,110,7000,7001,7002,7003],locs:=[(6,7000,0)],lbs:=[(7000,4)]}),(1000000,{vals:=vN [0,4,5,7000,7001,7002,7003],locs:=[(6,7000,0)],lbs:=[(7000,4)]})],loops:=[(1,{vals:=vN [0,4,5,8,7000,7001,7002,7003],locs:=[(6,7000,0)],lbs:=[(7000,4)]})],ords:=[(23,[0,1,2,3,4,5,6,7,9,10,11,12,13,14,8,15,16,17]),(26,[0,1,2,3,4,5,7,8,9,6,10]),(36,[0,1,2,3,4,5,6,7,8,9,12,13,14,15,10,11,16,17]),(40,[0,1,2,3,4,5,7,6,8])]}
def vg:Ann:={nl:=[14,18],loops:=[(0,{vals:=vN [0,3]})]}
def vj:Ann:={nl:=[4,5]}
def Am:Ann:={}
def An:Ann:={nl:=[19,23],loops:=[(0,{vals:=vN [0,1,12,13]})]}
def vk:Ann:={}
def vl:Ann:={nl:=[15],loops:=[(0,{vals:=vN [0,1,7,8]})]}
def Ao:Ann:={}
def vo:Ann:={joins:=[(4,{vals:=vN [3,4]}),(9,{vals:=vN [3,9]}),(14,{vals:=vN [3,14]}),(25,{vals:=[(25,none)]})]}
def vp:Ann:={lw:=[2]}
def Aq:Ann:={lw:=[2]}
def Ar:Ann:={iso:=false,nl:=[10,12,16,21,23,27,31,39,41,47,49,55,57,61,63],lw:=[6]}
def Au:Ann:={iso:=false,kinds:=[(7,.S)],nl:=[9,10,13,17],lw:=[7]}
def Aw:Ann:={no:=[13,19],nl:=[8,10,16,18],lw:=[6]}
def Ax:Ann:={iso:=false,kinds:=[(9,.S)],hb:=[7,31],no:=[45],nl:=[11,14,19,24,29,33,38,42,43],lw:=[6,7,9,47],loops:=[(0,{vals:=[(0,none),(4,none),(33,none),(34,none),(35,none),(7000,none),(7001,none),(7002,none),(7003,none),(8000,none),(8001,none),(8002,none),(8003,some 4)],locs:=[(6,7000,0),(7,8000,0)],lbs:=[(7000,4),(8000,4)]})],nils:=[(7,[3])]}
def Ay:Ann:={iso:=false,kinds:=[(8,.S),(12,.S)],no:=[61],nl:=[14,16,20,26,33,37,42,45,50,55,58,59,66],lw:=[6,8,12],joins:=[(17,{vals:=vN [0,4,5,7,7000,7001,7002,7003],locs:=[(6,7000,0)],lbs:=[(7000,4)]})],loops:=[(0,{vals:=[(0,none),(4,none),(7,none),(8,none),(10,some 4),(50,none),(51,none),(52,none),(7000,none),(7001,none),(7002,none),(7003,none)],locs:=[(6,7000,0)],lbs:=[(7000,4)]})]}
def Az:Ann:={iso:=false,kinds:=[(7,.S)],hl:=[47,54,60,69,90,105,110,127],ha:=[77],no:=[76],nl:=[12,15,17,19,22,26,30,35,40,47,54,56,60,69,71,73,84,90,92,95,105,107,110,112,117,119,121,127],lw:=[6,7],joins:=[(49,{vals:=vN [0,5,7,8,7000,7001,7002,7003],locs:=[(6,7000,0)],lbs:=[(7000,4)]}),(113,{vals:=vN [9,10,7000,7001,7002,7003],locs:=[(6,7000,0)],lbs:=[(7000,4)]})],ords:=[(2,[0,1,2,3,4,5,7,6,8])]}
def AA:Ann:={}
def AB:Ann:={nl:=[15],loops:=[(0,{vals:=vN [0,1,7,8]})]}
def vq:Ann:={}
def vr:Ann:={loops:=[(0,{vals:=vN [0,1,5]})]}
def vu:Ann:={}
def vv:Ann:={}
def vw:Ann:={nl:=[15],loops:=[(0,{vals:=vN [0,1,7,8]})]}
def AC:Ann:={}
def AD:Ann:={}
def nT:Ann:={}
def AE:Ann:={kinds:=[(5,.S)],nl:=[7,12,14],lw:=[5],loops:=[(0,{vals:=vN [3,7,8,9]})]}
def AF:Ann:={iso:=false,hl:=[8],nl:=[8]}
def AG:Ann:={iso:=false,hl:=[16],nl:=[16,20,30],lw:=[6]}
def AH:Ann:={iso:=false,kinds:=[(11,.S),(12,.S)],hl:=[16,26,30,67,79],ha:=[41],no:=[40],nl:=[16,20,26,30,34,36,48,54,57,61,67,74,79,83],lw:=[8,9,11,12],joins:=[(20,{vals:=vN [0,1,3,6,9000,9001,9002,9003],locs:=[(8,9000,0)],lbs:=[(9000,4)]})],loops:=[(0,{vals:=vN [0,3,6,48,49,50,9000,9001,9002,9003,10000,10001,10002],locs:=[(8,9000,0),(9,10000,0)],lbs:=[(9000,4),(10000,3)]})]}
def AJ:Ann:={nl:=[5,7]}
def AK:Ann:={}
def AL:Ann:={nl:=[5,6]}
def AM:Ann:={nl:=[5,6]}
def nU:Ann:={iso:=false,ha:=[7]}
noncomputable def uI:List (Nat×(Func×Ann)):=[
(6,(Tryz.f6,CU)),
(8,(Tryz.f8,AO)),
(10,(Tryz.f10,zn)),
(12,(Tryz.f12,CG)),
(13,(Tryz.f13,CH)),
(15,(Tryz.f15,CI)),
(16,(Tryz.f16,zo)),
(17,(Tryz.f17,CJ)),
(20,(Tryz.f20,zp)),
(23,(Tryz.f23,zq)),
(27,(Tryz.f27,CK)),
(35,(Tryz.f35,zr)),
(36,(Tryz.f36,zt)),
(37,(Tryz.f37,zu)),
(39,(Tryz.f39,CL)),
(42,(Tryz.f42,zv)),
(43,(Tryz.f43,CM)),
(44,(Tryz.f44,CN)),
(45,(Tryz.f45,CO)),
(46,(Tryz.f46,CP)),
(47,(Tryz.f47,CQ)),
(48,(Tryz.f48,zw)),
(49,(Tryz.f49,zx)),
(51,(Tryz.f51,CR)),
(54,(Tryz.f54,CS)),
(55,(Tryz.f55,zy)),
(56,(Tryz.f56,zA)),
(62,(Tryz.f62,CV)),
(72,(Tryz.f72,zB)),
(73,(Tryz.f73,zC)),
(74,(Tryz.f74,zD)),
(79,(Tryz.f79,CW)),
(81,(Tryz.f81,zE)),
(82,(Tryz.f82,CX)),
(83,(Tryz.f83,CY)),
(84,(Tryz.f84,CZ)),
(85,(Tryz.f85,C0)),
(86,(Tryz.f86,zF)),
(88,(Tryz.f88,C1)),
(92,(Tryz.f92,C2)),
(93,(Tryz.f93,C4)),
(94,(Tryz.f94,C5)),
(96,(Tryz.f96,zG)),
(97,(Tryz.f97,zH)),
(98,(Tryz.f98,zI)),
(99,(Tryz.f99,zJ)),
(104,(Tryz.f104,Ah)),
(111,(Tryz.f111,uX)),
(113,(Tryz.f113,uY)),
(114,(Tryz.f114,uZ)),
(115,(Tryz.f115,vd)),
(119,(Tryz.f119,ve)),
(129,(Tryz.f129,Ai)),
(130,(Tryz.f130,vf)),
(131,(Tryz.f131,Aj)),
(133,(Tryz.f133,Ak)),
(134,(Tryz.f134,Al)),
(135,(Tryz.f135,vg)),
(136,(Tryz.f136,vj)),
(140,(Tryz.f140,Am)),
(147,(Tryz.f147,An)),
(158,(Tryz.f158,vk)),
(164,(Tryz.f164,vl)),
(166,(Tryz.f166,Ao)),
(167,(Tryz.f167,vo)),
(168,(Tryz.f168,vp)),
(169,(Tryz.f169,Aq)),
(170,(Tryz.f170,Ar)),
(171,(Tryz.f171,Au)),
(172,(Tryz.f172,Aw)),
(173,(Tryz.f173,Ax)),
(174,(Tryz.f174,Ay)),
(175,(Tryz.f175,Az)),
(182,(Tryz.f182,AA)),
(193,(Tryz.f193,AB)),
(205,(Tryz.f205,vq)),
(206,(Tryz.f206,vr)),
(207,(Tryz.f207,vu)),
(208,(Tryz.f208,vv)),
(212,(Tryz.f212,vw)),
(217,(Tryz.f217,AC)),
(218,(Tryz.f218,AD)),
(220,(Tryz.f220,AE)),
(221,(Tryz.f221,AF)),
(222,(Tryz.f222,AG)),
(223,(Tryz.f223,AH)),
(224,(Tryz.f224,AJ)),
(230,(Tryz.f230,AK)),
(247,(Tryz.f247,AL)),
(248,(Tryz.f248,AM))]
def sR:List (Nat×(Func×Ann))->Nat->Option (Func×Ann)
 |[],_=>none
 |(k,x):: r,t=>bif Nat.beq k t then some x else sR r t
def own:FuncId->Option Nat:=fun f=>bif Nat.beq f 124 then some 3 else bif Nat.beq f 217 then some 1 else bif Nat.beq f 218 then some 4 else none
noncomputable def other:FuncId->Option ((FuncId->List AV->M AV)->List AV->M AV):=fun f=>
 bif Nat.beq f 19 then some (nF 81 54 20)else bif Nat.beq f 50 then some (sY)else bif Nat.beq f 52 then some (sZ)else bif Nat.beq f 95 then some (oG)else bif Nat.beq f 112 then some (gT)else bif Nat.beq f 116 then some (rK)else bif Nat.beq f 132 then some (sx 39 .i64 (.agg [.int .i64 0,.int .i64 0,.sl [],.sl []]))else bif Nat.beq f 141 then some (sJ 251)else bif Nat.beq f 142 then some (gS)else bif Nat.beq f 159 then some (ff)else bif Nat.beq f 219 then some (gp T 22)else bif Nat.beq f 249 then some (eZ T 30)else none
noncomputable def pg:Pg:={ T:=T,funcs:=sR uI,own:=own,other:=other,nw:=fun f=>bif Nat.beq f 249 then true else false }
def aW:cK pg:=by
 intro f E hE call calls hc;have h0:other f=some E:=hE;unfold other at h0;rcases cf h0 with rfl|h0
 ·exact uC _ _ _ _ _ hc
 rcases cf h0 with rfl|h0
 ·exact bp.const _
 rcases cf h0 with rfl|h0
 ·exact bp.const _
 rcases cf h0 with rfl|h0
 ·exact bp.const _
 rcases cf h0 with rfl|h0
 ·exact bp.const _
 rcases cf h0 with rfl|h0
 ·exact bp.const _
 rcases cf h0 with rfl|h0
 ·exact xq _ _ _ _ _ hc
 rcases cf h0 with rfl|h0
 ·exact bp.const _
 rcases cf h0 with rfl|h0
 ·exact bp.const _
 rcases cf h0 with rfl|h0
 ·exact bp.const _
 rcases cf h0 with rfl|h0
 ·exact ri _ _ _ _
 rcases cf h0 with rfl|h0
 ·exact rf _ _ _ _
 cases h0
end Go.Proofs.YtihmmkncokjbaaaGreatDoor
namespace Go.Proofs.YtihmmkncokjbaaaGreatDoor
open Go Go.Av
set_option maxRecDepth 1000000
instance dr0:Dr:=⟨False⟩
def oB{p:Prop}(h:Dr.on):p:=False.elim h
def BN:(tab.map fun x=>BO Tryz.prog x.1)=tab.map fun x=>some x.2:=by kernel_rfl
theorem m5:(l:List (Nat×TI))->(t:Nat)->(ti:TI)->sS l t=some ti->(t,ti)∈l
 |[],t,ti,h=>by cases h
 | (k,x):: r,t,ti,h=>by
  simp only[sS]at h;cases hk:Nat.beq k t with
  |true=>
   rw[hk]at h;simp only[F9,F7]at h
   have:=Gh hk
   subst this h;exact Hf
  |false=>
   rw[hk]at h;exact GV _ (m5 r t ti h)
theorem fP{α β:Type}{f g:α->β}:{l:List α} ->l.map f=l.map g->∀x∈l,f x=g x
 |[],_,x,hx=>by cases hx
 |a:: l,h,x,hx=>by
  simp only[GY,List.cons.injEq]at h;rcases Gt.1 hx with rfl|hx
  ·exact h.1
  ·exact fP h.2 x hx
def tok:TOK Tryz.prog T:=⟨fun t ti h=>fP BN (t,ti) (m5 tab t ti h),by kernel_rfl⟩
def zc:(uI.map fun x=>Tryz.prog.funcs[x.1]?)=uI.map fun x=>some x.2.1:=by kernel_rfl
def sw:(uI.map fun x=>x.2.1.name== "runtime.NumGoroutine")=uI.map fun _=>false:=by kernel_rfl
theorem m0:(l:List (Nat×(Func×Ann)))->(t:Nat)->(x:Func×Ann)->sR l t=some x->(t,x)∈l
 |[],t,ti,h=>by cases h
 | (k,x):: r,t,ti,h=>by
  simp only[sR]at h;cases hk:Nat.beq k t with
  |true=>
   rw[hk]at h;simp only[F9,F7]at h
   have:=Gh hk
   subst this h;exact Hf
  |false=>
   rw[hk]at h;exact GV _ (m0 r t ti h)
def wo:∀f fn a,pg.funcs f=some (fn,a)->Tryz.prog.funcs[f]? = some fn/\(fn.name== "runtime.NumGoroutine")=false:=by
 intro f fn a h
 have:=m0 uI f (fn,a) h
 exact⟨fP zc _ this,fP sw _ this⟩
end Go.Proofs.YtihmmkncokjbaaaGreatDoor
namespace Go.Proofs.YtihmmkncokjbaaaGreatDoor
open Go Go.Av Go.RowKit
set_option maxRecDepth 100000
def below_grow(w:World)(k:Nat)(os:Array Obj):Below w.heap.size w (Go.Sort.grow (w.drewN k) os):=by
 refine (show Below w.heap.size w (w.drewN k)from⟨rfl,rfl,rfl,Ga _,fun _ _=>rfl⟩).trans ⟨rfl,rfl,rfl,?_,fun b hb=>?_⟩
 ·simp[Go.Sort.grow]
 ·have hb':b<(w.drewN k).heap.size:=hb;show ((w.drewN k).heap++os)[b]? = _;rw[Ix hb']
def zd{w:World}(h:GOKw w):Lib.TabIs Tryz.prog w "internal/strconv.uint64pow10" .u64 Lib.pow10Tab:=by
 obtain⟨t,fr,hp⟩:=h.pow
 have hn:Tryz.prog.globalNamed "internal/strconv.uint64pow10" = some 0:=by kernel_rfl
 unfold Lib.TabIs World.var?;rw[hn];simp only[HQ,hp]
def DU(call:FuncId->List AV->M AV)(args:List AV)(h:Hp)(S:ap)(β:List aZ)(w:World)(vs:List Value)(hr:sY call args h≠.fail)(hg:kz S β h w)(hw:Wf S w)(hh:a7 S β w h)(hv:aP S β args vs):
  Calls Tryz.prog 50 vs.toArray w (bS none S β h w (sY call args h)):=by
 unfold sY at hr |-;split at hr
 ·rename_i n;simp only[aP,VR]at hv;obtain⟨v,r,rfl,rfl,rfl⟩:=hv;cases hc:(decide (-9223372036854775808<=n)&&decide (n<=9223372036854775807))with
  |false=>rw[hc]at hr;exact absurd rfl hr
  |true=>
   simp only[F8,Ge]at hc;simp only[F9];refine (Any.strconv_Itoa FU n hc.1 hc.2 w (zd hg.1)).mono ?_;rintro e w' ⟨rfl,k,os,rfl⟩;exact ci hw hh (below_grow w k os) oB (by simp only[VR];exact⟨_,rfl,by rw[wD hc.1 hc.2]⟩)
 ·exact absurd rfl hr
def fT{S:ap}{β:List aZ}{s:List UInt8}{r:List Value}{l:List AV}(hv:aP S β (.str s:: l) r):∃x r',r= .string x:: r'/\x.data.toList=s/\aP S β l r':=by
 simp only[aP,VR]at hv;obtain⟨v,r',rfl,⟨x,rfl,hx⟩,h⟩:=hv;exact⟨x,r',rfl,hx,h⟩
def BC(call:FuncId->List AV->M AV)(args:List AV)(h:Hp)(S:ap)(β:List aZ)(w:World)(vs:List Value)(hr:ff call args h≠.fail)(hg:kz S β h w)(hw:Wf S w)(hh:a7 S β w h)(hv:aP S β args vs):
  Calls Tryz.prog 159 vs.toArray w (bS none S β h w (ff call args h)):=by
 unfold ff at hr |-;split at hr
 ·rename_i s t;obtain⟨x,r,rfl,hx,hv⟩:=fT hv;obtain⟨y,r,rfl,hy,hv⟩:=fT hv;simp only[aP]at hv;subst hv;cases hc:decide (s.length<4294967281)with
  |false=>rw[hc]at hr;exact absurd rfl hr
  |true=>
   simp only[F9];have hlen:x.size=s.length:=by rw[<- hx,Gs];rfl
   obtain⟨m,hm⟩:=hg.1.max;refine (Any.strings_Contains FX x y m w (by have:=HD hc;omega) hm).mono ?_;rintro e w' ⟨rfl,rfl⟩;exact ci hw hh (Below.refl _ _) oB (by simp only[VR];rw[hx,hy])
 ·exact absurd rfl hr
end Go.Proofs.YtihmmkncokjbaaaGreatDoor
namespace Go.Proofs
open Go.Shelf
def FM:Go.Shelf.Ren:=⟨fun|172=>141|244=>183|245=>184|247=>231|279=>232|280=>233|281=>234|282=>235|287=>252|316=>253|171=>50|205=>254|321=>261|322=>262|243=>87|246=>137|283=>176|284=>177|285=>178|286=>179|129=>226|317=>225|318=>227|319=>228|320=>229|337=>250|338=>251|n=>n,fun|9=>9|3=>3|75=>124|76=>125|4=>4|5=>5|167=>248|37=>119|0=>0|85=>249|2=>2|168=>251|53=>206|175=>262|46=>189|210=>265|127=>172|145=>274|143=>272|21=>21|171=>205|173=>209|212=>244|51=>245|20=>20|213=>246|232=>269|233=>270|80=>127|n=>n,fun|15=>2|16=>3|17=>0|18=>4|19=>5|n=>n⟩
def FJ:Go.Proofs.LaysC.n172 Tryz.prog FM:={
 mixed:=by kernel_rfl
 f129:=Tryz.func226.trans (Gb some (by kernel_rfl))
 f171:=Tryz.func50.trans (Gb some (by kernel_rfl))
 f172:=Tryz.func141.trans (Gb some (by kernel_rfl))
 f205:=Tryz.func254.trans (Gb some (by kernel_rfl))
 f243:=Tryz.func87.trans (Gb some (by kernel_rfl))
 f244:=Tryz.func183.trans (Gb some (by kernel_rfl))
 f245:=Tryz.func184.trans (Gb some (by kernel_rfl))
 f246:=Tryz.func137.trans (Gb some (by kernel_rfl))
 f247:=Tryz.func231.trans (Gb some (by kernel_rfl))
 f279:=Tryz.func232.trans (Gb some (by kernel_rfl))
 f280:=Tryz.func233.trans (Gb some (by kernel_rfl))
 f281:=Tryz.func234.trans (Gb some (by kernel_rfl))
 f282:=Tryz.func235.trans (Gb some (by kernel_rfl))
 f283:=Tryz.func176.trans (Gb some (by kernel_rfl))
 f284:=Tryz.func177.trans (Gb some (by kernel_rfl))
 f285:=Tryz.func178.trans (Gb some (by kernel_rfl))
 f286:=Tryz.func179.trans (Gb some (by kernel_rfl))
 f287:=Tryz.func252.trans (Gb some (by kernel_rfl))
 f316:=Tryz.func253.trans (Gb some (by kernel_rfl))
 f317:=Tryz.func225.trans (Gb some (by kernel_rfl))
 f318:=Tryz.func227.trans (Gb some (by kernel_rfl))
 f319:=Tryz.func228.trans (Gb some (by kernel_rfl))
 f320:=Tryz.func229.trans (Gb some (by kernel_rfl))
 f321:=Tryz.func261.trans (Gb some (by kernel_rfl))
 f322:=Tryz.func262.trans (Gb some (by kernel_rfl))
 f337:=Tryz.func250.trans (Gb some (by kernel_rfl))
 f338:=Tryz.func251.trans (Gb some (by kernel_rfl))
 t0:=Tryz.underlying0
 a0:=Tryz.isAgg0
 z0:=Tryz.sizeOf0
 v0:=Tryz.zeroValue0
 t2:=Tryz.underlying2
 a2:=Tryz.isAgg2
 z2:=Tryz.sizeOf2
 v2:=Tryz.zeroValue2
 t3:=Tryz.underlying3
 a3:=Tryz.isAgg3
 z3:=Tryz.sizeOf3
 v3:=Tryz.zeroValue3
 t4:=Tryz.underlying4
 a4:=Tryz.isAgg4
 z4:=Tryz.sizeOf4
 v4:=Tryz.zeroValue4
 t5:=Tryz.underlying5
 a5:=Tryz.isAgg5
 z5:=Tryz.sizeOf5
 v5:=Tryz.zeroValue5
 t9:=Tryz.underlying9
 a9:=Tryz.isAgg9
 z9:=Tryz.sizeOf9
 v9:=Tryz.zeroValue9
 t20:=Tryz.underlying20
 a20:=Tryz.isAgg20
 z20:=Tryz.sizeOf20
 v20:=Tryz.zeroValue20
 t21:=Tryz.underlying21
 a21:=Tryz.isAgg21
 z21:=Tryz.sizeOf21
 v21:=Tryz.zeroValue21
 t37:=Tryz.underlying119
 a37:=Tryz.isAgg119
 z37:=Tryz.sizeOf119
 v37:=Tryz.zeroValue119
 t46:=Tryz.underlying189
 a46:=Tryz.isAgg189
 z46:=Tryz.sizeOf189
 v46:=Tryz.zeroValue189
 t51:=Tryz.underlying245
 a51:=Tryz.isAgg245
 z51:=Tryz.sizeOf245
 v51:=Tryz.zeroValue245
 t53:=Tryz.underlying206
 a53:=Tryz.isAgg206
 z53:=Tryz.sizeOf206
 v53:=Tryz.zeroValue206
 t75:=Tryz.underlying124
 a75:=Tryz.isAgg124
 z75:=Tryz.sizeOf124
 v75:=Tryz.zeroValue124
 t76:=Tryz.underlying125
 a76:=Tryz.isAgg125
 z76:=Tryz.sizeOf125
 v76:=Tryz.zeroValue125
 t85:=Tryz.underlying249
 a85:=Tryz.isAgg249
 z85:=Tryz.sizeOf249
 v85:=Tryz.zeroValue249
 t127:=Tryz.underlying172
 a127:=Tryz.isAgg172
 z127:=Tryz.sizeOf172
 v127:=Tryz.zeroValue172
 t143:=Tryz.underlying272
 a143:=Tryz.isAgg272
 z143:=Tryz.sizeOf272
 v143:=Tryz.zeroValue272
 t145:=Tryz.underlying274
 a145:=Tryz.isAgg274
 z145:=Tryz.sizeOf274
 v145:=Tryz.zeroValue274
 t167:=Tryz.underlying248
 a167:=Tryz.isAgg248
 z167:=Tryz.sizeOf248
 v167:=Tryz.zeroValue248
 t168:=Tryz.underlying251
 a168:=Tryz.isAgg251
 z168:=Tryz.sizeOf251
 v168:=Tryz.zeroValue251
 t171:=Tryz.underlying205
 a171:=Tryz.isAgg205
 z171:=Tryz.sizeOf205
 v171:=Tryz.zeroValue205
 t173:=Tryz.underlying209
 a173:=Tryz.isAgg209
 z173:=Tryz.sizeOf209
 v173:=Tryz.zeroValue209
 t175:=Tryz.underlying262
 a175:=Tryz.isAgg262
 z175:=Tryz.sizeOf262
 v175:=Tryz.zeroValue262
 t210:=Tryz.underlying265
 a210:=Tryz.isAgg265
 z210:=Tryz.sizeOf265
 v210:=Tryz.zeroValue265
 t212:=Tryz.underlying244
 a212:=Tryz.isAgg244
 z212:=Tryz.sizeOf244
 v212:=Tryz.zeroValue244
 t213:=Tryz.underlying246
 a213:=Tryz.isAgg246
 z213:=Tryz.sizeOf246
 t232:=Tryz.underlying269
 a232:=Tryz.isAgg269
 z232:=Tryz.sizeOf269
 v232:=Tryz.zeroValue269
 t233:=Tryz.underlying270
 a233:=Tryz.isAgg270
 z233:=Tryz.sizeOf270
 v233:=Tryz.zeroValue270
 g15:=by kernel_rfl
 g16:=by kernel_rfl
 g17:=by kernel_rfl
 g18:=by kernel_rfl
 g19:=by kernel_rfl
 t80:=Tryz.underlying127
 a80:=Tryz.isAgg127
 z80:=Tryz.sizeOf127
 v80:=Tryz.zeroValue127
 i0:=by kernel_rfl
 i2:=by kernel_rfl
 i3:=by kernel_rfl
 i4:=by kernel_rfl
 i5:=by kernel_rfl
 i9:=by kernel_rfl
 i20:=by kernel_rfl
 i21:=by kernel_rfl
 i37:=by kernel_rfl
 i46:=by kernel_rfl
 i51:=by kernel_rfl
 i53:=by kernel_rfl
 i75:=by kernel_rfl
 i76:=by kernel_rfl
 i80:=by kernel_rfl
 i85:=by kernel_rfl
 i127:=by kernel_rfl
 i143:=by kernel_rfl
 i145:=by kernel_rfl
 i167:=by kernel_rfl
 i168:=by kernel_rfl
 i171:=by kernel_rfl
 i173:=by kernel_rfl
 i175:=by kernel_rfl
 i210:=by kernel_rfl
 i212:=by kernel_rfl
 i232:=by kernel_rfl
 i233:=by kernel_rfl
 m15:=by kernel_rfl
 m16:=by kernel_rfl
 m17:=by kernel_rfl
 m18:=by kernel_rfl
 m19:=by kernel_rfl
 c0:=by kernel_rfl
 c2:=by kernel_rfl
 c3:=by kernel_rfl
 c4:=by kernel_rfl
 c5:=by kernel_rfl
 c9:=by kernel_rfl
 c20:=by kernel_rfl
 c21:=by kernel_rfl
 c37:=by kernel_rfl
 c46:=by kernel_rfl
 c51:=by kernel_rfl
 c53:=by kernel_rfl
 c75:=by kernel_rfl
 c76:=by kernel_rfl
 c80:=by kernel_rfl
 c85:=by kernel_rfl
 c127:=by kernel_rfl
 c143:=by kernel_rfl
 c145:=by kernel_rfl
 c167:=by kernel_rfl
 c168:=by kernel_rfl
 c171:=by kernel_rfl
 c173:=by kernel_rfl
 c175:=by kernel_rfl
 c210:=by kernel_rfl
 c212:=by kernel_rfl
 c213:=by kernel_rfl
 c232:=by kernel_rfl
 c233:=by kernel_rfl }
def FO:Go.Shelf.Ren:=⟨fun|153=>142|152=>185|226=>186|227=>187|228=>188|137=>236|119=>237|224=>238|225=>239|217=>255|266=>263|n=>n,fun|9=>9|3=>3|4=>4|5=>5|21=>21|117=>218|116=>217|0=>0|46=>189|124=>256|n=>n,fun|n=>n⟩
def FV:Go.Proofs.Lays.n153 Tryz.prog FO:={
 mixed:=by kernel_rfl
 f119:=Tryz.func237.trans (Gb some (by kernel_rfl))
 f137:=Tryz.func236.trans (Gb some (by kernel_rfl))
 f152:=Tryz.func185.trans (Gb some (by kernel_rfl))
 f153:=Tryz.func142.trans (Gb some (by kernel_rfl))
 f217:=Tryz.func255.trans (Gb some (by kernel_rfl))
 f224:=Tryz.func238.trans (Gb some (by kernel_rfl))
 f225:=Tryz.func239.trans (Gb some (by kernel_rfl))
 f226:=Tryz.func186.trans (Gb some (by kernel_rfl))
 f227:=Tryz.func187.trans (Gb some (by kernel_rfl))
 f228:=Tryz.func188.trans (Gb some (by kernel_rfl))
 f266:=Tryz.func263.trans (Gb some (by kernel_rfl))
 t0:=Tryz.underlying0
 a0:=Tryz.isAgg0
 z0:=Tryz.sizeOf0
 v0:=Tryz.zeroValue0
 t3:=Tryz.underlying3
 a3:=Tryz.isAgg3
 z3:=Tryz.sizeOf3
 v3:=Tryz.zeroValue3
 t4:=Tryz.underlying4
 a4:=Tryz.isAgg4
 z4:=Tryz.sizeOf4
 v4:=Tryz.zeroValue4
 t5:=Tryz.underlying5
 a5:=Tryz.isAgg5
 z5:=Tryz.sizeOf5
 v5:=Tryz.zeroValue5
 t9:=Tryz.underlying9
 a9:=Tryz.isAgg9
 z9:=Tryz.sizeOf9
 v9:=Tryz.zeroValue9
 t21:=Tryz.underlying21
 a21:=Tryz.isAgg21
 z21:=Tryz.sizeOf21
 v21:=Tryz.zeroValue21
 t46:=Tryz.underlying189
 a46:=Tryz.isAgg189
 z46:=Tryz.sizeOf189
 v46:=Tryz.zeroValue189
 t116:=Tryz.underlying217
 a116:=Tryz.isAgg217
 z116:=Tryz.sizeOf217
 t117:=Tryz.underlying218
 a117:=Tryz.isAgg218
 z117:=Tryz.sizeOf218
 v117:=Tryz.zeroValue218
 t124:=Tryz.underlying256
 a124:=Tryz.isAgg256
 z124:=Tryz.sizeOf256
 v124:=Tryz.zeroValue256 }
def FK:Go.Shelf.Ren:=⟨fun|156=>52|165=>89|166=>90|169=>91|240=>138|241=>139|276=>180|277=>181|n=>n,fun|31=>22|9=>9|3=>3|4=>4|0=>0|20=>20|72=>121|76=>125|70=>118|37=>119|75=>124|127=>172|164=>211|5=>5|80=>127|n=>n,fun|n=>n⟩
def FL:Go.Proofs.Lays.n156 Tryz.prog FK:={
 mixed:=by kernel_rfl
 f156:=Tryz.func52.trans (Gb some (by kernel_rfl))
 f165:=Tryz.func89.trans (Gb some (by kernel_rfl))
 f166:=Tryz.func90.trans (Gb some (by kernel_rfl))
 f169:=Tryz.func91.trans (Gb some (by kernel_rfl))
 f240:=Tryz.func138.trans (Gb some (by kernel_rfl))
 f241:=Tryz.func139.trans (Gb some (by kernel_rfl))
 f276:=Tryz.func180.trans (Gb some (by kernel_rfl))
 f277:=Tryz.func181.trans (Gb some (by kernel_rfl))
 t0:=Tryz.underlying0
 a0:=Tryz.isAgg0
 z0:=Tryz.sizeOf0
 v0:=Tryz.zeroValue0
 t3:=Tryz.underlying3
 a3:=Tryz.isAgg3
 z3:=Tryz.sizeOf3
 v3:=Tryz.zeroValue3
 t4:=Tryz.underlying4
 a4:=Tryz.isAgg4
 z4:=Tryz.sizeOf4
 v4:=Tryz.zeroValue4
 t9:=Tryz.underlying9
 a9:=Tryz.isAgg9
 z9:=Tryz.sizeOf9
 v9:=Tryz.zeroValue9
 t20:=Tryz.underlying20
 a20:=Tryz.isAgg20
 z20:=Tryz.sizeOf20
 v20:=Tryz.zeroValue20
 t31:=Tryz.underlying22
 a31:=Tryz.isAgg22
 z31:=Tryz.sizeOf22
 v31:=Tryz.zeroValue22
 t37:=Tryz.underlying119
 a37:=Tryz.isAgg119
 z37:=Tryz.sizeOf119
 v37:=Tryz.zeroValue119
 t70:=Tryz.underlying118
 a70:=Tryz.isAgg118
 z70:=Tryz.sizeOf118
 v70:=Tryz.zeroValue118
 t72:=Tryz.underlying121
 a72:=Tryz.isAgg121
 z72:=Tryz.sizeOf121
 v72:=Tryz.zeroValue121
 t75:=Tryz.underlying124
 a75:=Tryz.isAgg124
 z75:=Tryz.sizeOf124
 v75:=Tryz.zeroValue124
 t76:=Tryz.underlying125
 a76:=Tryz.isAgg125
 z76:=Tryz.sizeOf125
 v76:=Tryz.zeroValue125
 t127:=Tryz.underlying172
 a127:=Tryz.isAgg172
 z127:=Tryz.sizeOf172
 v127:=Tryz.zeroValue172
 t164:=Tryz.underlying211
 a164:=Tryz.isAgg211
 z164:=Tryz.sizeOf211
 v164:=Tryz.zeroValue211 }
end Go.Proofs
namespace Go.Proofs.YtihmmkncokjbaaaGreatDoor
open Go Go.Av Go.RowKit
set_option maxRecDepth 100000
def Bz(call:FuncId->List AV->M AV)(args:List AV)(h:Hp)(S:ap)(β:List aZ)(w:World)(vs:List Value)(hr:sJ 251 call args h≠.fail)(hg:kz S β h w)(hw:Wf S w)(hh:a7 S β w h)(hv:aP S β args vs):
  Calls Tryz.prog 141 vs.toArray w (bS none S β h w (sJ 251 call args h)):=by
 unfold sJ at hr |-;split at hr
 ·rename_i s;obtain⟨x,r,rfl,hx,hv⟩:=fT hv;simp only[aP]at hv;subst hv;cases hc:decide (s.length<=281474976710656)with
  |false=>rw[hc]at hr;exact absurd rfl hr
  | true=>
   simp only[F9];have hlen:x.size=s.length:=by rw[<- hx,Gs];rfl
   have hlim:=HD hc;subst hx;cases ha:Lib.atoiAll x.data.toList with
   |ok v=>
    refine (Any.strconv_Atoi_ok FJ x (by omega) v ha w).mono ?_;rintro e w' ⟨rfl,hW⟩;refine ci hw hh ?_ oB (by simp only[sK,ha,VR,aP];exact⟨[_,_],rfl,_,_,rfl,rfl,_,_,rfl,rfl,rfl⟩);rcases hW with rfl|⟨t,rfl⟩
    ·exact Below.refl _ _
    ·exact Lib.bytesWorld_below _ _ _
   |range=>
    obtain⟨t,p,hs⟩:=hg.1.rng;refine (Any.strconv_Atoi_range FJ x (by omega) ha _ w hs (.inr ⟨t,p,rfl⟩)).mono ?_;rintro e w' ⟨N,rfl,_,_,hb⟩;exact ci hw hh hb oB (by simp only[sK,ha,VR,aP];exact⟨[_,_],rfl,_,_,rfl,rfl,_,_,rfl,⟨_,rfl,trivial⟩,rfl⟩)
   |_=>
    obtain⟨t,p,hs⟩:=hg.1.syn;refine (Any.strconv_Atoi_syntax FJ x (by omega) ha _ w hs (.inr ⟨t,p,rfl⟩)).mono ?_;rintro e w' ⟨N,rfl,_,_,hb⟩;exact ci hw hh hb oB (by simp only[sK,ha,VR,aP];exact⟨[_,_],rfl,_,_,rfl,rfl,_,_,rfl,⟨_,rfl,trivial⟩,rfl⟩)
 ·exact absurd rfl hr
end Go.Proofs.YtihmmkncokjbaaaGreatDoor
namespace Go.Proofs.YtihmmkncokjbaaaGreatDoor
open Go Go.Av Go.Av.Sb Go.RowKit
set_option maxRecDepth 100000
theorem lp(cs:List UInt8):∀(s:List UInt8)(i:Int),0<=i->gM cs s i=if Lib.indexAny s cs= -1 then -1 else i+Lib.indexAny s cs
 |[],i,_=>by simp[gM,Lib.indexAny]
 | b:: s,i,hi=>by
  have h1:=Lib.indexAny_ge cs s;rw[gM,Lib.indexAny];by_cases hb:cs.contains b=true
  ·rw[Gg hb,Gg hb];simp
  ·rw[if_neg hb,if_neg hb,lp cs s (i+1) (by omega)];by_cases h2:Lib.indexAny s cs= -1
   ·simp[h2]
   ·simp only[if_neg h2,GU];rw[if_neg (by omega)];omega
def oe(cs s:List UInt8):gM cs s 0=Lib.indexAny s cs:=by
 rw[lp cs s 0 (Int.le_refl _)];split
 ·rename_i h;exact h.symm
 ·omega
def vE{s:ByteArray}{l:List UInt8}(h:s.data.toList=l)(ha:q6 l=true):∀(j:Nat) b,s.data.toList[j]? = some b->b.toNat<128:=by
 intro j b hb;rw[h]at hb
 have:=Gk.1 ha b (He hb)
 simpa using this
def BA(call:FuncId->List AV->M AV)(args:List AV)(h:Hp)(S:ap)(β:List aZ)(w:World)(vs:List Value)(hr:gS call args h≠.fail)(_hg:kz S β h w)(hw:Wf S w)(hh:a7 S β w h)(hv:aP S β args vs):
  Calls Tryz.prog 142 vs.toArray w (bS none S β h w (gS call args h)):=by
 unfold gS at hr |-;split at hr
 ·rename_i s t;obtain⟨x,r,rfl,hx,hv⟩:=fT hv;obtain⟨y,r,rfl,hy,hv⟩:=fT hv;simp only[aP]at hv;subst hv;cases hc:(decide (s.length<4294967281)&&decide (t.length<1000)&&q6 t)with
  |false=>rw[hc]at hr;exact absurd rfl hr
  |true=>
   simp only[F8,Ge]at hc;simp only[F9];have hlen:x.size=s.length:=by rw[<- hx,Gs];rfl
   have hlen':y.size=t.length:=by rw[<- hy,Gs];rfl
   refine (om FV (by kernel_rfl) x y w (by omega) (by omega) (vE hy hc.2)).mono ?_;rintro e w' ⟨rfl,hb⟩;exact ci hw hh hb oB (by simp only[VR];rw[hx,hy,oe])
 ·exact absurd rfl hr
theorem lI(sep:List UInt8):∀l:List (List UInt8),lH sep l=Lib.join l sep
 |[]=>rfl
 |[a]=>by rw[lH,Lib.join_one]
 |a:: b:: l=>by
  rw[lH,lI sep (b:: l),Lib.join_cons,Lib.join_cons];simp[Lib.joinTail]
theorem mf:∀ {es:List AV} {l:List (List UInt8)},strsOf es=some l->es=l.map .str
 |[],l,h=>by simp[strsOf]at h;subst h;rfl
 |e:: es,l,h=>by
  cases e<;>simp[strsOf]at h;rename_i s;obtain⟨r,hr,rfl⟩:=h;rw[mf hr];rfl
def pz:Builder.Extra Tryz.prog FK where
 sizeBuilder:=by kernel_rfl
 liesBuilder:=by kernel_rfl
 t5:=Tryz.underlying5
 a5:=Tryz.isAgg5
 z5:=Tryz.sizeOf5
 v5:=Tryz.zeroValue5
 infoByte:=by kernel_rfl
 cellsByte:=by kernel_rfl
 sizeByte:=by kernel_rfl
 neB5:=by decide
theorem pk:∀(l:List (List UInt8)),∃xs:List ByteArray,xs.map (·.data.toList)=l
 |[]=>⟨[],rfl⟩
 |a:: l=>by
  obtain⟨xs,h⟩:=pk l;exact⟨⟨a.toArray⟩:: xs,by simp[h]⟩
def DV(call:FuncId->List AV->M AV)(args:List AV)(h:Hp)(S:ap)(β:List aZ)(w:World)(vs:List Value)(hr:sZ call args h≠.fail)(_hg:kz S β h w)(hw:Wf S w)(hh:a7 S β w h)(hv:aP S β args vs):
  Calls Tryz.prog 52 vs.toArray w (bS none S β h w (sZ call args h)):=by
 unfold sZ at hr |-;split at hr
 ·rename_i es sep;cases hs:strsOf es with
  |none=>simp only[hs]at hr;exact absurd rfl hr
  | some l=>
   simp only[hs]at hr |-;have hes:=mf hs;subst hes;cases hc:(decide (l.length<=140737488355328)&&decide ((lH sep l).length<=140737488355328))with
   |false=>rw[hc]at hr;exact absurd rfl hr
   | true=>
    simp only[F8,Ge]at hc;simp only[F9];rw[aP]at hv;obtain⟨v,r,rfl,hv1,hv⟩:=hv;obtain⟨y,r',rfl,hy,hv⟩:=fT hv;simp only[aP]at hv;subst hv;obtain⟨xs,hxs⟩:=pk l;have hxl:xs.length=l.length:=by rw[<- hxs];simp
    simp only[VR,Hz]at hv1;obtain⟨a,cap,rfl,hcap,hnil,hels⟩:=hv1
    have key:Calls Tryz.prog 52 #[.slice a l.length cap,.string y] w fun e w'=>e= .returned (.string ⟨(Lib.join l y.data.toList).toArray⟩)/\Below w.heap.size w w':=by
     cases l with
     |nil=>exact (Any.strings_Join_none FL pz a cap y w).mono fun e w' ⟨he,hw⟩=>⟨he,hw▸Below.refl _ _⟩
     | cons s0 l0=>
      simp only[Gu]at hcap hc hxl;cases a with
      |none=>have:=hnil rfl;omega
      | some q=>
       obtain⟨hz,n,hE⟩:=hels q rfl;obtain⟨qb,qo,qs⟩:=q;have hq:qs=none:=hz (by omega);subst hq;have hcell:∀(j:Nat) x,xs[j]? = some x->S qb (qo+j)=some (.string x):=fun j x hx=>by
        have hg:((s0:: l0).map AV.str)[j]? = some (.str x.data.toList):=by rw[<- hxs];simp[hx]
        obtain⟨v,hv1,hv2,hv3⟩:=hE.get hg;simp only[VR]at hv1;obtain⟨z,rfl,hz2⟩:=hv1;have hn1:n=1:=by rw[<- hv2];rfl
        subst hn1;have h3:=hv3 0 (.string z) rfl;have hzx:z=x:=by
         cases z;cases x;simp only at hz2;congr 1;exact Array.toList_inj.1 hz2
        rw[hzx]at h3;simpa using h3
       have hlt:qb<w.heap.size:=by
        cases xs with
        |nil=>simp at hxl
        |cons x0 xs0=>exact hw.lt (hcell 0 x0 rfl)
       have h:=Any.strings_Join FL pz qb qo cap xs y w (fun j x hx=>hw _ _ _ (hcell j x hx)) hlt (by omega) (by omega) (by rw[hxs,hy,<- lI];exact hc.2);rw[hxs,hxl]at h;exact h
    refine key.mono ?_;rintro e w' ⟨rfl,hb⟩;exact ci hw hh hb oB (by simp only[VR];exact⟨_,rfl,by rw[lI,hy]⟩)
 ·exact absurd rfl hr
end Go.Proofs.YtihmmkncokjbaaaGreatDoor
namespace Go.Proofs
open Go.Shelf
def FQ:Go.Shelf.Ren:=⟨fun|8=>143|6=>189|n=>n,fun|22=>119|23=>5|25=>136|4=>4|3=>3|0=>0|n=>n,fun|n=>n⟩
def FW:Go.Proofs.SlLaysH.n8 Tryz.prog FQ:={
 mixed:=by kernel_rfl
 f6:=⟨Tryz.f189.name,by decide,Tryz.func189.trans (Gb some (by kernel_rfl))⟩
 f8:=⟨Tryz.f143.name,by decide,Tryz.func143.trans (Gb some (by kernel_rfl))⟩
 t0:=Tryz.underlying0
 a0:=Tryz.isAgg0
 z0:=Tryz.sizeOf0
 v0:=Tryz.zeroValue0
 t3:=Tryz.underlying3
 a3:=Tryz.isAgg3
 z3:=Tryz.sizeOf3
 v3:=Tryz.zeroValue3
 t4:=Tryz.underlying4
 a4:=Tryz.isAgg4
 z4:=Tryz.sizeOf4
 v4:=Tryz.zeroValue4
 t22:=Tryz.underlying119
 a22:=Tryz.isAgg119
 z22:=Tryz.sizeOf119
 v22:=Tryz.zeroValue119
 a23:=Tryz.isAgg5
 z23:=Tryz.sizeOf5
 t25:=Tryz.underlying136
 a25:=Tryz.isAgg136
 z25:=Tryz.sizeOf136
 v25:=Tryz.zeroValue136 }
end Go.Proofs
namespace Go.Proofs.YtihmmkncokjbaaaGreatDoor
open Go Go.Av Go.RowKit
set_option maxRecDepth 100000
def Dq(x:UInt8):Value:=.int .u8 x.toNat
set_option maxHeartbeats 4000000 in
def qv(w:World):PredAt Tryz.prog 144 #[] Dq (fun x=>!gF x) w:=fun W x hb=>by
 show Calls Tryz.prog 144 #[.int .u8 x.toNat] W _
 go_enter Tryz.func144,Tryz.ntmps144
 go_wp2
 all_goals (go_ret;refine⟨?_,0,rfl⟩)
 all_goals (simp[gF]at *)
 all_goals (try omega)
 all_goals (try (rw[Hn];simp;omega))
def uz(l:List UInt8):(!(l.any fun x=>!gF x))=l.all gF:=by
 induction l with
 |nil=>rfl
 |cons a l ih=>simp only[List.any_cons,GO,<- ih];cases gF a<;>simp
def getD_at(l:List UInt8)(j:Nat)(h:j<l.length):l.getD j 0=l[j]!:=by
 rw[GG,Gm h,G1 l j h];rfl
set_option maxHeartbeats 4000000 in
def uA(x:ByteArray)(w:World)(hx:x.size<4294967281):Calls Tryz.prog 95 #[.string x] w fun e w'=>e= .returned (.bool (l3 x.data.toList))/\Below w.heap.size w w':=by
 have eg:∀args w,(callFunc 144 args).run Tryz.prog w= .ok (.enter 144 args) w:=enters_of Tryz.func144 (by kernel_rfl) rfl;have hsz:x.data.toList.length=x.size:=by rw[Gs];rfl
 have kc:=Go.Lib.run_convert_string_bytes (P:=Tryz.prog) w 9 119 5 x Tryz.underlying9 Tryz.underlying119 Tryz.underlying5;have hcon:=AnyE.slices_ContainsFunc FW Dq (fun x=>!gF x) 144 #[] eg w.heap.size 0 x.size (grownCap w x.size 0 5) x.data.toList (Go.Lib.bytesWorld w 5 x) (qv _) (by omega) (by omega) (fun j hj=>by
  rw[GE,Go.Lib.bytesWorld_cell w 5 x j (by omega),getD_at _ _ hj];rfl)
 rw[show x.size=x.data.toList.length from hsz.symm,IJ]at hcon;change Calls Tryz.prog 143 #[_,.func (.func 144) #[] #[]] _ _ at hcon;have hcon':=hcon;rw[hsz]at hcon';clear hcon;have hpl:=uz x.data.toList;generalize (x.data.toList.any fun x=>!gF x)=b at hcon' hpl;have hdef:l3 x.data.toList=(!x.data.toList.isEmpty&&!b):=by rw[l3,hpl]
 have hbel:Below w.heap.size w (Go.Lib.bytesWorld w 5 x):=Go.Lib.bytesWorld_below _ _ _;have hemp:x.data.toList.isEmpty=decide (x=⟨#[]⟩):=by
  obtain⟨⟨l⟩⟩:=x;cases l<;>simp
 rw[hdef,hemp];have key:∀(W:World)(sl:Value),(convert 9 119 (.string x)).run Tryz.prog w= .ok sl W->Calls Tryz.prog 143 #[sl,.func (.func 144) #[] #[]] W (fun e w'=>e= .returned (.bool b)/\∃q,w'=W.drewN q)->Below w.heap.size w W->
   Calls Tryz.prog 95 #[.string x] w fun e w'=>e= .returned (.bool (!decide (x=⟨#[]⟩)&&!b))/\Below w.heap.size w w':=by
  clear hcon' hbel kc hdef hemp hpl hsz eg hx;intro W sl kc hcon' hbel;by_cases hx0:x=⟨#[]⟩
  ·subst hx0;clear kc hcon' hbel
   go_enter Tryz.func95,Tryz.ntmps95
   go_wp2
   go_ret
   exact⟨by simp,Below.refl _ _⟩
  ·have hx1:x.toList.isEmpty=false:=by
    rw[ByteArray.toList_eq];obtain⟨⟨l⟩⟩:=x;cases l with
    |nil=>exact absurd rfl hx0
    |cons=>rfl
   go_enter Tryz.func95,Tryz.ntmps95
   go_wp2_with (go_at_call 143;refine hcon'.mono ?_;rintro e w' ⟨rfl,q,rfl⟩)
   all_goals go_ret
   all_goals first
    |(refine⟨?_,Below.refl _ _⟩;simp_all;done)
    |(refine⟨?_,below_drewN' hbel _⟩;simp_all;done)
 exact key _ _ kc hcon' hbel
def DW(call:FuncId->List AV->M AV)(args:List AV)(h:Hp)(S:ap)(β:List aZ)(w:World)(vs:List Value)(hr:oG call args h≠.fail)(_hg:kz S β h w)(hw:Wf S w)(hh:a7 S β w h)(hv:aP S β args vs):
  Calls Tryz.prog 95 vs.toArray w (bS none S β h w (oG call args h)):=by
 unfold oG at hr |-;split at hr
 ·rename_i s;obtain⟨x,r,rfl,hx,hv⟩:=fT hv;simp only[aP]at hv;subst hv;cases hc:decide (s.length<4294967281)with
  |false=>rw[hc]at hr;exact absurd rfl hr
  |true=>
   simp only[F9];have hlen:x.size=s.length:=by rw[<- hx,Gs];rfl
   refine (uA x w (by have:=HD hc;omega)).mono ?_;rintro e w' ⟨rfl,hb⟩;exact ci hw hh hb oB (by simp only[VR];rw[hx])
 ·exact absurd rfl hr
end Go.Proofs.YtihmmkncokjbaaaGreatDoor
namespace Go.Proofs.YtihmmkncokjbaaaGreatDoor
open Go Go.Av
def re(p q:Addr)(w:World):CallsD Tryz.prog 165 #[.pointer (some p),.pointer (some q)] .returning w fun e u' w'=>e= .returned (.tuple #[])/\u'= .returning/\w'=w:=by
 refine callsD_of_wpS Tryz.func165 rfl fun c₀ cs hu=>?_;apply wpS_seq;apply wpS_region;simp[wpOpsS,go_sem,recoverD,hu,Tryz.ntmps165,Exit.thenS];refine wpS_of_wp ?_
 go_wp2
 cases c₀;simp_all[bodyPostS,results,Tryz.results165]
def vF(n:Int)(w:World):(Instr.typeAssert (.iface 39 (.int .i64 n)) 20 39 true).run Tryz.prog w= .ok (.tuple #[.int .i64 n,.bool true]) w:=by kernel_rfl
def vL(w:World):(Instr.build 45 #[]).run Tryz.prog w= .ok (.agg #[.int .i64 0,.int .i64 0,.slice none 0 0,.slice none 0 0]) w:=by
 obtain⟨v,h1,h2⟩:=pj (P:=Tryz.prog) (T:=T) (w:=w) (S:=fun _ _=>none) (β:=[]) (told:=true) (t:=45) (parts:=[]) (r:=.agg [.int .i64 0,.int .i64 0,.hn,.hn]) (qs:=#[]) tok rfl rfl;rw[h1];simp only[VR,aP]at h2;obtain⟨vs,rfl,a,_,rfl,rfl,b,_,rfl,rfl,c,_,rfl,rfl,d,_,rfl,rfl,rfl⟩:=h2;rfl
set_option maxHeartbeats 4000000 in
set_option maxRecDepth 100000 in
def tW(b c:Nat)(x0 x1 x2 x3 y0:Value)(n:Int)(w:World)(c0:w.cell? ⟨b,0,none⟩=some x0)(c1:w.cell? ⟨b,1,none⟩=some x1)(c2:w.cell? ⟨b,2,none⟩=some x2)(c3:w.cell? ⟨b,3,none⟩=some x3)(d0:w.cell? ⟨c,0,none⟩=some y0)(f0:w.frozen? ⟨b,0,none⟩=false)(f1:w.frozen? ⟨b,1,none⟩=false)(f2:w.frozen? ⟨b,2,none⟩=false)(f3:w.frozen? ⟨b,3,none⟩=false)(g0:w.frozen? ⟨c,0,none⟩=false)(hne:¬b=c)(hne':¬c=b):
  CallsD Tryz.prog 165 #[.pointer (some ⟨b,0,none⟩),.pointer (some ⟨c,0,none⟩)] (.panicking [{ v:=.iface 39 (.int .i64 n),recovered:=false }]) w fun e u' w'=>
   e= .returned (.tuple #[])/\u'= .panicking [{ v:=.iface 39 (.int .i64 n),recovered:=true }]/\w'=((((w.setCell ⟨b,0,none⟩ (.int .i64 0)).setCell ⟨b,1,none⟩ (.int .i64 0)).setCell ⟨b,2,none⟩ (.slice none 0 0)).setCell ⟨b,3,none⟩ (.slice none 0 0)).setCell ⟨c,0,none⟩ (.int .i64 n):=by
 refine callsD_of_wpS Tryz.func165 rfl fun c₀ cs hu=>?_;apply wpS_seq;apply wpS_region;simp[wpOpsS,go_sem,recoverD,hu,Tryz.ntmps165,Exit.thenS];refine wpS_of_wp ?_;have h1:=vF n;have h2:=vL
 go_wp2
 cases c₀;simp_all[bodyPostS,results,Tryz.results165]
end Go.Proofs.YtihmmkncokjbaaaGreatDoor
namespace Go.Proofs.YtihmmkncokjbaaaGreatDoor
open Go Go.Av
set_option maxHeartbeats 4000000 in
set_option maxRecDepth 100000 in
def qy(p q:Addr)(w:World):CallsD Tryz.prog 53 #[.pointer (some p),.pointer (some q)] .returning w fun e u' w'=>e= .returned (.tuple #[])/\u'= .returning/\w'=w:=by
 refine callsD_of_wpS Tryz.func53 rfl fun c₀ cs hu=>?_;apply wpS_seq;apply wpS_region;simp[wpOpsS,go_sem,recoverD,hu,Tryz.ntmps53,Exit.thenS];refine wpS_of_wp ?_
 go_wp2
 cases c₀;simp_all[bodyPostS,results,Tryz.results53]
def vG(w:World):(Instr.typeAssert (.iface 81 (.agg #[])) 20 81 true).run Tryz.prog w= .ok (.tuple #[.agg #[],.bool true]) w:=by kernel_rfl
def qS(w:World):World:=w.alloc (.cells #[] 81)
set_option maxHeartbeats 4000000 in
set_option maxRecDepth 100000 in
def r5(b c:Nat)(x0 x1 x2 x3 y0:Value)(w:World)(c0:(qS w).cell? ⟨b,0,none⟩=some x0)(c1:(qS w).cell? ⟨b,1,none⟩=some x1)(c2:(qS w).cell? ⟨b,2,none⟩=some x2)(c3:(qS w).cell? ⟨b,3,none⟩=some x3)(d0:(qS w).cell? ⟨c,0,none⟩=some y0)(f0:(qS w).frozen? ⟨b,0,none⟩=false)(f1:(qS w).frozen? ⟨b,1,none⟩=false)(f2:(qS w).frozen? ⟨b,2,none⟩=false)(f3:(qS w).frozen? ⟨b,3,none⟩=false)(g0:(qS w).frozen? ⟨c,0,none⟩=false)(hne:¬b=c)(hne':¬c=b):
  CallsD Tryz.prog 53 #[.pointer (some ⟨b,0,none⟩),.pointer (some ⟨c,0,none⟩)] (.panicking [{ v:=.iface 81 (.agg #[]),recovered:=false }]) w fun e u' w'=>
   e= .returned (.tuple #[])/\u'= .panicking [{ v:=.iface 81 (.agg #[]),recovered:=true }]/\w'=(((((qS w).setCell ⟨b,0,none⟩ (.int .i64 0)).setCell ⟨b,1,none⟩ (.int .i64 0)).setCell ⟨b,2,none⟩ (.slice none 0 0)).setCell ⟨b,3,none⟩ (.slice none 0 0)).setCell ⟨c,0,none⟩ (.int .i64 34):=by
 unfold qS at *;refine callsD_of_wpS Tryz.func53 rfl fun c₀ cs hu=>?_;apply wpS_seq;apply wpS_region;simp[wpOpsS,go_sem,recoverD,hu,Tryz.ntmps53,Exit.thenS];refine wpS_of_wp ?_;have h1:=vG;have h2:=vL
 go_wp2
 cases c₀;simp_all[bodyPostS,results,Tryz.results53]
end Go.Proofs.YtihmmkncokjbaaaGreatDoor
