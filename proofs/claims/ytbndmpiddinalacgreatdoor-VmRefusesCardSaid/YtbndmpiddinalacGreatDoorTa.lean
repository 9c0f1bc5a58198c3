/- What the functions compute, part 1. Conditions: bounds. -/
import Derived.Ground.NamesProg
import Derived.Shelf.Lays
import Derived.Shelf.Strings.Search3
import Derived.Shelf.Strings.Fields
import Derived.Test.YtbndmpiddinalacGreatDoorProg
import Derived.Test.YtbndmpiddinalacGreatDoorLc
import Derived.Tactics
import Derived.Tactics2
import Derived.Defers
import Derived.Recover
set_option linter.defProp false
set_option linter.unusedSimpArgs false
set_option linter.unusedVariables false
namespace Go
theorem Vc{P:Prop}(h:P:=by kernel_rfl):P:=h
end Go
namespace Go.Proofs
open Go.Shelf
def Xx:Go.Shelf.Ren:=⟨fun|144=>157|143=>181|219=>193|217=>195|225=>196|224=>197|267=>198|266=>199|314=>200|n=>n,fun|9=>9|4=>4|3=>3|5=>5|46=>266|146=>269|51=>246|n=>n,fun|1=>3|n=>n⟩
def Xz:Go.Proofs.Lays.n144 Tryz.prog Xx:={
 mixed:=Vc
 f143:=Tryz.func181.trans (Ym some Vc)
 f144:=Tryz.func157.trans (Ym some Vc)
 f217:=Tryz.func195.trans (Ym some Vc)
 f219:=Tryz.func193.trans (Ym some Vc)
 f224:=Tryz.func197.trans (Ym some Vc)
 f225:=Tryz.func196.trans (Ym some Vc)
 f266:=Tryz.func199.trans (Ym some Vc)
 f267:=Tryz.func198.trans (Ym some Vc)
 f314:=Tryz.func200.trans (Ym some Vc)
 t3:=Tryz.underlying3
 a3:=Tryz.isAgg3
 z3:=Tryz.sizeOf3
 v3:=Tryz.zeroValue3
 t4:=Tryz.underlying4
 a4:=Tryz.isAgg4
 z4:=Tryz.sizeOf4
 v4:=Tryz.zeroValue4
 t5:=Tryz.underlying5
 a5:=Tryz.isAgg5
 z5:=Tryz.sizeOf5
 v5:=Tryz.zeroValue5
 t9:=Tryz.underlying9
 a9:=Tryz.isAgg9
 z9:=Tryz.sizeOf9
 v9:=Tryz.zeroValue9
 t46:=Tryz.underlying266
 a46:=Tryz.isAgg266
 z46:=Tryz.sizeOf266
 v46:=Tryz.zeroValue266
 t51:=Tryz.underlying246
 a51:=Tryz.isAgg246
 z51:=Tryz.sizeOf246
 v51:=Tryz.zeroValue246
 t146:=Tryz.underlying269
 a146:=Tryz.isAgg269
 z146:=Tryz.sizeOf269
 v146:=Tryz.zeroValue269
 g1:=by kernel_rfl }
def Xw:Go.Shelf.Ren:=⟨fun|157=>116|229=>155|199=>156|261=>180|311=>191|312=>192|n=>n,fun|9=>9|31=>27|3=>3|5=>5|4=>4|119=>230|0=>0|40=>232|152=>243|21=>21|154=>245|51=>246|141=>248|196=>257|193=>254|198=>260|49=>258|194=>255|201=>263|226=>265|46=>266|227=>267|n=>n,fun|0=>1|6=>2|n=>n⟩
def Xy:Go.Proofs.Lays.n157 Tryz.prog Xw:={
 mixed:=Vc
 f157:=Tryz.func116.trans (Ym some Vc)
 f199:=Tryz.func156.trans (Ym some Vc)
 f229:=Tryz.func155.trans (Ym some Vc)
 f261:=Tryz.func180.trans (Ym some Vc)
 f311:=Tryz.func191.trans (Ym some Vc)
 f312:=Tryz.func192.trans (Ym some Vc)
 t0:=Tryz.underlying0
 a0:=Tryz.isAgg0
 z0:=Tryz.sizeOf0
 v0:=Tryz.zeroValue0
 t3:=Tryz.underlying3
 a3:=Tryz.isAgg3
 z3:=Tryz.sizeOf3
 v3:=Tryz.zeroValue3
 t4:=Tryz.underlying4
 a4:=Tryz.isAgg4
 z4:=Tryz.sizeOf4
 v4:=Tryz.zeroValue4
 t5:=Tryz.underlying5
 a5:=Tryz.isAgg5
 z5:=Tryz.sizeOf5
 v5:=Tryz.zeroValue5
 t9:=Tryz.underlying9
 a9:=Tryz.isAgg9
 z9:=Tryz.sizeOf9
 v9:=Tryz.zeroValue9
 t21:=Tryz.underlying21
 a21:=Tryz.isAgg21
 z21:=Tryz.sizeOf21
 v21:=Tryz.zeroValue21
 t31:=Tryz.underlying27
 a31:=Tryz.isAgg27
 z31:=Tryz.sizeOf27
 v31:=Tryz.zeroValue27
 t40:=Tryz.underlying232
 a40:=Tryz.isAgg232
 z40:=Tryz.sizeOf232
 v40:=Tryz.zeroValue232
 t46:=Tryz.underlying266
 a46:=Tryz.isAgg266
 z46:=Tryz.sizeOf266
 v46:=Tryz.zeroValue266
 t49:=Tryz.underlying258
 a49:=Tryz.isAgg258
 z49:=Tryz.sizeOf258
 v49:=Tryz.zeroValue258
 t51:=Tryz.underlying246
 a51:=Tryz.isAgg246
 z51:=Tryz.sizeOf246
 v51:=Tryz.zeroValue246
 t119:=Tryz.underlying230
 a119:=Tryz.isAgg230
 z119:=Tryz.sizeOf230
 t141:=Tryz.underlying248
 a141:=Tryz.isAgg248
 z141:=Tryz.sizeOf248
 v141:=Tryz.zeroValue248
 t152:=Tryz.underlying243
 a152:=Tryz.isAgg243
 z152:=Tryz.sizeOf243
 v152:=Tryz.zeroValue243
 t154:=Tryz.underlying245
 a154:=Tryz.isAgg245
 z154:=Tryz.sizeOf245
 v154:=Tryz.zeroValue245
 t193:=Tryz.underlying254
 a193:=Tryz.isAgg254
 z193:=Tryz.sizeOf254
 v193:=Tryz.zeroValue254
 t194:=Tryz.underlying255
 a194:=Tryz.isAgg255
 z194:=Tryz.sizeOf255
 v194:=Tryz.zeroValue255
 t196:=Tryz.underlying257
 a196:=Tryz.isAgg257
 z196:=Tryz.sizeOf257
 v196:=Tryz.zeroValue257
 t198:=Tryz.underlying260
 a198:=Tryz.isAgg260
 z198:=Tryz.sizeOf260
 v198:=Tryz.zeroValue260
 t201:=Tryz.underlying263
 a201:=Tryz.isAgg263
 z201:=Tryz.sizeOf263
 v201:=Tryz.zeroValue263
 t226:=Tryz.underlying265
 a226:=Tryz.isAgg265
 z226:=Tryz.sizeOf265
 v226:=Tryz.zeroValue265
 t227:=Tryz.underlying267
 a227:=Tryz.isAgg267
 z227:=Tryz.sizeOf267
 v227:=Tryz.zeroValue267
 g0:=Vc
 g6:=by kernel_rfl }
end Go.Proofs
namespace Go.Proofs.YtbndmpiddinalacGreatDoor
open Go Go.Av Go.Av.Ap
abbrev CC:=FuncId->List AV->M AV
abbrev RR:=List AV->M AV
def lb{α β:Type}{m:M α}{f:α->M β}{fs:Nat->α->M β}(hf:cM f fs):d9 (ar m f) fun n=>ar m (fs n):=d9.bnd (gp _) hf
abbrev vN(l:List Nat):List (Nat×Option Nat):=l.map fun x=>(x,none)
abbrev tF:TI:=TI.mk false 1 8 .func [] [.nilf] false
@[simp] def tE:Nat->List Nat->List (Nat×(Nat×Bool))
 |_,[]=>[]
 |i,x::l=>(i,(x,true))::tE (i+1) l
@[simp] abbrev tS(c s:Nat)(f:List Nat)(z:List AV)(b:Bool):TI:=TI.mk true c s .struct (tE 0 f) z b
noncomputable def tab:List (Nat×TI):=[
(0,(TI.mk false 1 0 .other [] [.any] false)),
(1,tF),
(2,(TI.mk false 1 8 (.int .i64) [] [.int .i64 0] false)),
(3,(TI.mk false 1 8 (.int .i64) [] [.int .i64 0] false)),
(4,(TI.mk false 1 1 .bool [] [.bool false] false)),
(5,(TI.mk false 1 1 (.int .u8) [] [.int .u8 0] false)),
(6,(TI.mk false 1 1 (.int .u8) [] [.int .u8 0] false)),
(7,(tS 4 24 [2,3,4,6] [.int .i64 0,.int .i64 0,.bool false,.int .u8 0] true)),
(8,(tS 4 24 [2,3,4,6] [.int .i64 0,.int .i64 0,.bool false,.int .u8 0] true)),
(9,(TI.mk false 1 16 .str [] [.str []] false)),
(10,(TI.mk false 1 16 .str [] [.str []] false)),
(11,(TI.mk false 1 16 .str [] [.str []] false)),
(12,(TI.mk false 1 8 (.int .u64) [] [.int .u64 0] false)),
(13,(tS 2 24 [9,12] [.str [],.int .u64 0] false)),
(14,(tS 2 24 [9,12] [.str [],.int .u64 0] false)),
(15,(TI.mk false 1 8 .ptr [] [.nilp] false)),
(16,(TI.mk false 1 8 .ptr [] [.nilp] false)),
(17,(TI.mk false 1 8 .ptr [] [.nilp] false)),
(18,(tS 1 8 [17] [.nilp] false)),
(19,(tS 1 8 [17] [.nilp] false)),
(20,(TI.mk false 1 16 .iface [] [.nili] false)),
(21,(TI.mk false 1 4 (.int .i32) [] [.int .i32 0] false)),
(22,(TI.mk false 1 24 (.slice 53) [] [.sl []] false)),
(23,(TI.mk false 1 24 (.slice 58) [] [.sl []] false)),
(24,(TI.mk false 1 24 (.slice 44) [] [.sl []] false)),
(25,(TI.mk false 1 24 (.slice 3) [] [.sl []] false)),
(26,(TI.mk false 1 8 (.int .i64) [] [.int .i64 0] false)),
(27,(TI.mk false 1 24 (.slice 9) [] [.sl []] false)),
(28,(TI.mk false 1 24 (.slice 30) [] [.sl []] false)),
(29,(tS 4 64 [3,3,27,28] [.int .i64 0,.int .i64 0,.sl [],.sl []] true)),
(30,(tS 4 64 [3,3,27,28] [.int .i64 0,.int .i64 0,.sl [],.sl []] true)),
(31,(TI.mk false 1 24 (.slice 102) [] [.sl []] false)),
(32,(TI.mk false 1 24 (.slice 65) [] [.sl []] false)),
(33,(TI.mk true 8 144 .struct [(0,((26,true))),(1,((30,true))),(5,((31,true))),(6,((32,true))),(7,((23,true)))] [.int .i64 0,.int .i64 0,.int .i64 0,.sl [],.sl [],.sl [],.sl [],.sl []] true)),
(34,(TI.mk true 8 144 .struct [(0,((26,true))),(1,((30,true))),(5,((31,true))),(6,((32,true))),(7,((23,true)))] [.int .i64 0,.int .i64 0,.int .i64 0,.sl [],.sl [],.sl [],.sl [],.sl []] true)),
(35,(TI.mk true 13 248 .struct [(0,((22,true))),(1,((23,true))),(2,((24,true))),(3,((25,true))),(4,((34,true))),(12,((4,true)))] [.sl [],.sl [],.sl [],.sl [],.int .i64 0,.int .i64 0,.int .i64 0,.sl [],.sl [],.sl [],.sl [],.sl [],.bool false] true)),
(36,(TI.mk true 13 248 .struct [(0,((22,true))),(1,((23,true))),(2,((24,true))),(3,((25,true))),(4,((34,true))),(12,((4,true)))] [.sl [],.sl [],.sl [],.sl [],.int .i64 0,.int .i64 0,.int .i64 0,.sl [],.sl [],.sl [],.sl [],.sl [],.bool false] true)),
(37,tF),
(38,tF),
(39,(TI.mk false 1 0 .other [] [.any] false)),
(40,tF),
(41,tF),
(42,tF),
(43,(tS 5 88 [9,9,3,28,28] [.str [],.str [],.int .i64 0,.sl [],.sl []] true)),
(44,(tS 5 88 [9,9,3,28,28] [.str [],.str [],.int .i64 0,.sl [],.sl []] true)),
(45,tF),
(46,tF),
(47,(TI.mk false 1 24 (.slice 143) [] [.sl []] false)),
(48,(TI.mk false 1 24 (.slice 121) [] [.sl []] false)),
(49,(TI.mk false 1 24 (.slice 123) [] [.sl []] false)),
(50,(tS 3 72 [47,48,48] [.sl [],.sl [],.sl []] true)),
(51,(tS 3 72 [47,48,48] [.sl [],.sl [],.sl []] true)),
(52,(tS 9 192 [9,27,47,48,49,4,51] [.str [],.sl [],.sl [],.sl [],.sl [],.bool false,.sl [],.sl [],.sl []] true)),
(53,(tS 9 192 [9,27,47,48,49,4,51] [.str [],.sl [],.sl [],.sl [],.sl [],.bool false,.sl [],.sl [],.sl []] true)),
(54,(TI.mk false 1 0 .other [] [.any] false)),
(55,tF),
(56,tF),
(57,(tS 2 40 [9,28] [.str [],.sl []] true)),
(58,(tS 2 40 [9,28] [.str [],.sl []] true)),
(59,tF),
(60,tF),
(61,tF),
(62,tF),
(63,tF),
(64,(tS 3 56 [9,9,28] [.str [],.str [],.sl []] true)),
(65,(tS 3 56 [9,9,28] [.str [],.str [],.sl []] true)),
(66,tF),
(67,(TI.mk false 1 8 .ptr [] [.nilp] false)),
(68,(TI.mk false 1 0 .other [] [.any] false)),
(69,tF),
(70,(TI.mk false 1 8 (.map 9 3) [] [.nilm] false)),
(71,(TI.mk false 1 8 (.map 96 93) [] [.nilm] false)),
(72,(TI.mk true 15 264 .struct [(0,((36,true))),(13,((70,true))),(14,((71,true)))] [.sl [],.sl [],.sl [],.sl [],.int .i64 0,.int .i64 0,.int .i64 0,.sl [],.sl [],.sl [],.sl [],.sl [],.bool false,.nilm,.nilm] true)),
(73,(TI.mk true 15 264 .struct [(0,((36,true))),(13,((70,true))),(14,((71,true)))] [.sl [],.sl [],.sl [],.sl [],.int .i64 0,.int .i64 0,.int .i64 0,.sl [],.sl [],.sl [],.sl [],.sl [],.bool false,.nilm,.nilm] true)),
(74,tF),
(75,tF),
(76,(TI.mk false 1 24 (.slice 130) [] [.sl []] false)),
(77,(TI.mk false 1 0 .other [] [.any] false)),
(78,tF),
(79,(TI.mk false 1 8 .ptr [] [.nilp] false)),
(80,(tS 2 32 [76,3] [.sl [],.int .i64 0] true)),
(81,(tS 2 32 [76,3] [.sl [],.int .i64 0] true)),
(82,(TI.mk false 1 0 .other [] [.any] false)),
(83,tF),
(84,tF),
(85,(TI.mk false 1 0 .other [] [.any] false)),
(86,tF),
(87,(TI.mk false 1 0 .other [] [.any] false)),
(88,tF),
(89,(TI.mk false 1 24 (.slice 113) [] [.sl []] false)),
(90,(tS 4 56 [9,3,3,89] [.str [],.int .i64 0,.int .i64 0,.sl []] true)),
(91,(tS 4 56 [9,3,3,89] [.str [],.int .i64 0,.int .i64 0,.sl []] true)),
(92,(TI.mk true 7 96 .struct [(0,((3,true))),(1,((4,true))),(2,((91,true))),(6,((25,true)))] [.int .i64 0,.bool false,.str [],.int .i64 0,.int .i64 0,.sl [],.sl []] true)),
(93,(TI.mk true 7 96 .struct [(0,((3,true))),(1,((4,true))),(2,((91,true))),(6,((25,true)))] [.int .i64 0,.bool false,.str [],.int .i64 0,.int .i64 0,.sl [],.sl []] true)),
(94,(TI.mk false 1 0 .other [] [.any] false)),
(95,(tS 2 32 [9,9] [.str [],.str []] true)),
(96,(tS 2 32 [9,9] [.str [],.str []] true)),
(97,tF),
(98,tF),
(99,tF),
(100,tF),
(101,(tS 3 24 [3,3,3] [.int .i64 0,.int .i64 0,.int .i64 0] true)),
(102,(tS 3 24 [3,3,3] [.int .i64 0,.int .i64 0,.int .i64 0] true)),
(103,tF),
(104,tF),
(105,tF),
(106,tF),
(107,tF),
(108,(TI.mk false 1 8 .ptr [] [.nilp] false)),
(109,tF),
(110,tF),
(111,tF),
(112,(tS 5 72 [3,3,9,9,27] [.int .i64 0,.int .i64 0,.str [],.str [],.sl []] true)),
(113,(tS 5 72 [3,3,9,9,27] [.int .i64 0,.int .i64 0,.str [],.str [],.sl []] true)),
(114,tF),
(115,tF),
(116,tF),
(117,tF),
(118,(tS 2 32 [3,47] [.int .i64 0,.sl []] true)),
(119,(tS 2 32 [3,47] [.int .i64 0,.sl []] true)),
(120,(tS 6 96 [3,3,9,9,27,48] [.int .i64 0,.int .i64 0,.str [],.str [],.sl [],.sl []] true)),
(121,(tS 6 96 [3,3,9,9,27,48] [.int .i64 0,.int .i64 0,.str [],.str [],.sl [],.sl []] true)),
(122,(TI.mk true 12 184 .struct [(0,((9,true))),(1,((4,true))),(2,((47,true))),(3,((119,true))),(5,((3,true))),(6,((121,true)))] [.str [],.bool false,.sl [],.int .i64 0,.sl [],.int .i64 0,.int .i64 0,.int .i64 0,.str [],.str [],.sl [],.sl []] true)),
(123,(TI.mk true 12 184 .struct [(0,((9,true))),(1,((4,true))),(2,((47,true))),(3,((119,true))),(5,((3,true))),(6,((121,true)))] [.str [],.bool false,.sl [],.int .i64 0,.sl [],.int .i64 0,.int .i64 0,.int .i64 0,.str [],.str [],.sl [],.sl []] true)),
(124,tF),
(125,tF),
(126,tF),
(127,tF),
(128,tF),
(129,(tS 4 40 [3,9,3,3] [.int .i64 0,.str [],.int .i64 0,.int .i64 0] true)),
(130,(tS 4 40 [3,9,3,3] [.int .i64 0,.str [],.int .i64 0,.int .i64 0] true)),
(131,(TI.mk false 1 0 .other [] [.any] false)),
(132,tF),
(133,(tS 2 16 [3,26] [.int .i64 0,.int .i64 0] true)),
(134,(tS 2 16 [3,26] [.int .i64 0,.int .i64 0] true)),
(135,(TI.mk false 1 0 .other [] [.any] false)),
(136,tF),
(137,tF),
(138,(TI.mk false 1 8 (.map 9 4) [] [.nilm] false)),
(139,tF),
(140,tF),
(141,tF),
(142,(tS 3 48 [9,119] [.str [],.int .i64 0,.sl []] true)),
(143,(tS 3 48 [9,119] [.str [],.int .i64 0,.sl []] true)),
(144,tF),
(145,tF),
(146,tF),
(147,tF),
(148,tF),
(149,tF),
(150,tF),
(151,tF),
(152,tF),
(153,(TI.mk false 1 0 .other [] [.any] false)),
(154,(TI.mk false 1 24 (.slice 91) [] [.sl []] false)),
(155,tF),
(156,(TI.mk false 1 0 .other [] [.any] false)),
(157,tF),
(158,tF),
(159,tF),
(160,(TI.mk false 1 0 .other [] [.any] false)),
(161,tF),
(162,tF),
(163,tF),
(164,(TI.mk false 1 8 .ptr [] [.nilp] false)),
(165,(tS 12 208 [22,25,3,3,34] [.sl [],.sl [],.int .i64 0,.int .i64 0,.int .i64 0,.int .i64 0,.int .i64 0,.sl [],.sl [],.sl [],.sl [],.sl []] true)),
(166,(tS 12 208 [22,25,3,3,34] [.sl [],.sl [],.int .i64 0,.int .i64 0,.int .i64 0,.int .i64 0,.int .i64 0,.sl [],.sl [],.sl [],.sl [],.sl []] true)),
(167,tF),
(168,(TI.mk false 1 0 .other [] [.any] false)),
(169,tF),
(170,tF),
(171,tF),
(172,tF),
(173,tF),
(174,tF),
(175,tF),
(176,tF),
(177,tF),
(178,tF),
(179,tF),
(180,tF),
(181,tF),
(182,tF),
(183,tF),
(184,tF),
(185,tF),
(186,tF),
(187,tF),
(188,tF),
(189,tF),
(190,(TI.mk true 14 224 (.array 14 9) [] (List.replicate 14 (.str [])) false)),
(191,tF),
(192,tF),
(193,tF),
(194,tF),
(195,tF),
(196,tF),
(197,tF),
(198,tF),
(199,tF),
(200,(TI.mk false 1 8 .ptr [] [.nilp] false)),
(201,(tS 3 56 [47,89,3] [.sl [],.sl [],.int .i64 0] true)),
(202,(tS 3 56 [47,89,3] [.sl [],.sl [],.int .i64 0] true)),
(203,tF),
(204,tF),
(205,tF),
(206,(TI.mk false 1 0 .other [] [.any] false)),
(207,tF),
(208,tF),
(209,tF),
(210,tF),
(211,(tS 3 56 [3,27,28] [.int .i64 0,.sl [],.sl []] true)),
(212,(tS 3 56 [3,27,28] [.int .i64 0,.sl [],.sl []] true)),
(213,tF),
(214,tF),
(215,tF),
(216,tF),
(217,tF),
(218,tF),
(219,tF),
(220,tF),
(221,tF),
(222,tF),
(223,tF),
(224,(TI.mk false 1 0 .other [] [.any] false)),
(225,tF),
(226,(tS 3 32 [9,3,3] [.str [],.int .i64 0,.int .i64 0] true)),
(227,(tS 3 32 [9,3,3] [.str [],.int .i64 0,.int .i64 0] true)),
(228,(TI.mk false 1 24 (.slice 227) [] [.sl []] false)),
(229,tF),
(230,(TI.mk true 256 256 (.array 256 5) [] (List.replicate 256 (.int .u8 0)) false)),
(231,tF),
(232,tF),
(233,tF),
(234,tF),
(235,tF),
(236,tF),
(237,tF),
(238,tF),
(239,tF),
(240,tF),
(241,tF),
(242,tF),
(243,(TI.mk false 1 24 (.slice 245) [] [.sl []] false)),
(244,(tS 2 16 [3,3] [.int .i64 0,.int .i64 0] true)),
(245,(tS 2 16 [3,3] [.int .i64 0,.int .i64 0] true)),
(246,(TI.mk false 1 4 (.int .u32) [] [.int .u32 0] false)),
(247,tF),
(248,(TI.mk false 1 8 .ptr [] [.nilp] false)),
(249,tF),
(250,tF),
(251,tF),
(252,tF),
(253,tF),
(254,(TI.mk false 1 24 (.slice 260) [] [.sl []] false)),
(255,(TI.mk false 1 24 (.slice 263) [] [.sl []] false)),
(256,(tS 3 56 [254,255,3] [.sl [],.sl [],.int .i64 0] true)),
(257,(tS 3 56 [254,255,3] [.sl [],.sl [],.int .i64 0] true)),
(258,(TI.mk false 1 2 (.int .u16) [] [.int .u16 0] false)),
(259,(tS 3 6 [258,258,258] [.int .u16 0,.int .u16 0,.int .u16 0] true)),
(260,(tS 3 6 [258,258,258] [.int .u16 0,.int .u16 0,.int .u16 0] true)),
(261,tF),
(262,(tS 3 12 [246,246,246] [.int .u32 0,.int .u32 0,.int .u32 0] true)),
(263,(tS 3 12 [246,246,246] [.int .u32 0,.int .u32 0,.int .u32 0] true)),
(264,tF),
(265,(TI.mk false 1 8 .ptr [] [.nilp] false)),
(266,(TI.mk false 1 8 (.int .u64) [] [.int .u64 0] false)),
(267,(TI.mk false 1 8 .ptr [] [.nilp] false)),
(268,tF),
(269,(TI.mk false 1 0 .other [] [.any] false)),
(270,tF),
(271,(tS 4 40 [17,17,17,9] [.nilp,.nilp,.nilp,.str []] false)),
(272,(tS 4 40 [17,17,17,9] [.nilp,.nilp,.nilp,.str []] false)),
(273,(TI.mk true 0 0 (.array 0 16) [] [] false)),
(274,(TI.mk true 0 0 .struct [(0,((273,false)))] [] false)),
(275,(TI.mk true 0 0 .struct [(0,((273,false)))] [] false)),
(276,tF),
(277,(TI.mk false 1 1 (.int .u8) [] [.int .u8 0] false)),
(278,(TI.mk false 1 1 (.int .u8) [] [.int .u8 0] false)),
(279,tF),
(280,(TI.mk false 1 8 .ptr [] [.nilp] false)),
(281,(TI.mk false 1 4 (.int .i32) [] [.int .i32 0] false)),
(282,(TI.mk false 1 4 (.int .i32) [] [.int .i32 0] false)),
(283,(tS 11 48 [12,12,246,277,5,5,278,279,280,281,282] [.int .u64 0,.int .u64 0,.int .u32 0,.int .u8 0,.int .u8 0,.int .u8 0,.int .u8 0,.nilf,.nilp,.int .i32 0,.int .i32 0] false)),
(284,(tS 11 48 [12,12,246,277,5,5,278,279,280,281,282] [.int .u64 0,.int .u64 0,.int .u32 0,.int .u8 0,.int .u8 0,.int .u8 0,.int .u8 0,.nilf,.nilp,.int .i32 0,.int .i32 0] false)),
(285,(TI.mk false 1 8 .other [] [.nilp] false))]
def DV:List (Nat×TI)->Nat->Option TI
 |[],_=>none
 |(k,x):: r,t=>bif Nat.beq k t then some x else DV r t
noncomputable def T:TT:=DV tab
def Up:Ann:={kinds:=[(6,.S),(8,.S)],ha:=[92,95,114,117],hb:=[128,133],fz:=[128,133],no:=[109],nl:=[15,28,33,38,52,57,66,71,74,81,88,91,94,102,106,113,116,124],lw:=[6,8,11,12,13,96,118,125],joins:=[(48,{vals:=vN [2,5,6,7]})]}
def Uq:Ann:={kinds:=[(1,.S),(6,.S),(8,.S),(10,.S),(12,.S),(14,.S),(16,.S)],no:=[26,28,32,113,138,144],nl:=[25,37,42,47,62,67,72,75,106,110,120,124,127,132,135,143,149,152,155,163,167],lw:=[1,6,8,10,12,14,16]}
def Ur:Ann:={no:=[143],nl:=[9,19,23,28,38,42,47,51,58,69,73,79,90,94,98,102,108,114,121,128,135,142],loops:=[(0,{vals:=vN [1,3]}),(2,{vals:=vN [1,4]}),(4,{vals:=vN [1,5]}),(6,{vals:=vN [1,6]})]}
def Us:Ann:={hl:=[18,22,28],nl:=[7,18,22,28],lw:=[2]}
def Ut:Ann:={hl:=[31,39,44,48],nl:=[9,31,39,44,48],lw:=[4],joins:=[(1000000,{vals:=vN [6,5000,5001,5002,5003,5004,5005,5006,5007,5008,5009,5010,5011,5012],locs:=[(4,5000,0)],lbs:=[(5000,13)]})],loops:=[(0,{vals:=vN [6,24,25,5000,5001,5002,5003,5004,5005,5006,5007,5008,5009,5010,5011,5012],locs:=[(4,5000,0)],lbs:=[(5000,13)]})]}
def Uu:Ann:={nl:=[6]}
def Uv:Ann:={kinds:=[(7,.S),(8,.S)],nl:=[10,13,18,21,27,29,34,36,42,44,50,56,59,61,64,69,75,78,80,83,85,87,91,93,98,100,105,107,113,115,120,122],lw:=[7,8],loops:=[(0,{vals:=vN [2,3,5]}),(2,{vals:=vN [2,3,6]})]}
def PE:Ann:={lw:=[2]}
def PF:Ann:={iso:=false,kinds:=[(8,.H),(9,.S),(25,.H)],hl:=[37],hb:=[8,24],nl:=[27,37],lw:=[2,9]}
def PG:Ann:={kinds:=[(15,.S)],hl:=[39,76],nl:=[39,52,69,76],lw:=[10,15]}
def PH:Ann:={nl:=[7,9,13,16,22,24,30,36,39,41,44,47,49,53,55],loops:=[(0,{vals:=vN [2,3,5]})]}
def PI:Ann:={lw:=[12]}
def PK:Ann:={nl:=[20,24],loops:=[(0,{vals:=vN [0,1,5]})]}
def PL:Ann:={nl:=[20,24],loops:=[(0,{vals:=vN [0,1,5]})]}
def PM:Ann:={nl:=[20,28],loops:=[(0,{vals:=vN [0,1,5]})]}
def PN:Ann:={nl:=[17],loops:=[(0,{vals:=vN [0,3]})]}
def PO:Ann:={iso:=false,kinds:=[(6,.S),(9,.S)],nl:=[13,21,23,29,32,36,41,46,49,54,60,62,68,74,82,88,92,96,101,107],lw:=[6,9],joins:=[(94,{vals:=vN [1,4,9,10,82,83,84]})],loops:=[(0,{vals:=vN [1,4,82,83,84]})]}
def PP:Ann:={iso:=false,kinds:=[(3,.S)],hl:=[10,14,18,26,32,43,47,51],nl:=[10,14,18,26,28,32,37,43,47,51,55],lw:=[3]}
def PQ:Ann:={nl:=[21,26,33,38],loops:=[(0,{vals:=vN [0,1,5]})]}
def PS:Ann:={nl:=[8,11,16,22,25,27,30,35,38,43,46,52,55,59,61,65,67,72,74,79,81,86,88],loops:=[(0,{vals:=vN [2,3,5]})]}
def PT:Ann:={no:=[25,42],lw:=[7,39],loops:=[(0,{vals:=[(0,none),(5,some 4),(6,none)]})]}
def PU:Ann:={iso:=false,nl:=[2]}
def PV:Ann:={iso:=false,hl:=[28,52],hb:=[3],no:=[37,72,79,98],nl:=[28,52],lw:=[2,7,12,39,62,74,81,100,103,107,116,124],joins:=[(102,{vals:=[(0,none),(3000,none),(3001,none),(3002,none),(3003,none),(3004,none),(3005,none),(3006,none),(3007,none),(3008,none),(4000,none),(4001,some 1),(4002,some 3),(4003,some 6),(4004,some 12),(4005,none),(4006,none),(4007,none),(4008,none)],locs:=[(2,3000,0),(3,4000,0)],lbs:=[(3000,9),(4000,9)]})],loops:=[(0,{vals:=[(0,none),(4,none),(5,none),(6,none),(3000,none),(3001,none),(3002,none),(3003,none),(3004,none),(3005,none),(3006,none),(3007,none),(3008,none),(4000,none),(4001,some 1),(4002,some 3),(4003,some 6),(4004,some 12),(4005,none),(4006,none),(4007,none),(4008,none)],locs:=[(2,3000,0),(3,4000,0)],lbs:=[(3000,9),(4000,9)]}),(2,{vals:=[(0,none),(5,none),(6,none),(3000,none),(3001,none),(3002,none),(3003,none),(3004,none),(3005,none),(3006,none),(3007,none),(3008,none),(4000,none),(4001,some 1),(4002,some 3),(4003,some 6),(4004,some 12),(4005,none),(4006,none),(4007,none),(4008,none)],locs:=[(2,3000,0),(3,4000,0)],lbs:=[(3000,9),(4000,9)]}),(4,{vals:=[(0,none),(6,none),(3000,none),(3001,none),(3002,none),(3003,none),(3004,none),(3005,none),(3006,none),(3007,none),(3008,none),(4000,none),(4001,some 1),(4002,some 3),(4003,some 6),(4004,some 12),(4005,none),(4006,none),(4007,none),(4008,none)],locs:=[(2,3000,0),(3,4000,0)],lbs:=[(3000,9),(4000,9)]})],nils:=[(3,[1,2,3,4])]}
def PW:Ann:={iso:=false,kinds:=[(6,.S),(10,.S),(12,.S),(14,.S),(23,.H)],hl:=[35,45,85],hb:=[22],nl:=[30,35,37,45,47,55,56,66,67,74,76,85,87,89,93,97,98],lw:=[6,10,12,14],loops:=[(0,{vals:=vN [0,4,24,25,26]}),(2,{vals:=vN [0,4,50,51,52]}),(4,{vals:=vN [0,4,60,61,62]}),(6,{vals:=vN [0,4,11,12,60,61,62,68,69,70]})]}
def PX:Ann:={kinds:=[(7,.S),(10,.S),(11,.S)],hb:=[8,26],no:=[52,58],nl:=[23,25,28,31,35,40,42,51],lw:=[7,8,10,11,54],loops:=[(0,{vals:=[(5,some 2),(18,none),(19,none),(20,none)]}),(2,{vals:=[(5,some 2),(18,none),(19,none),(20,none),(35,none),(36,none),(37,none),(9000,none),(9001,some 4)],locs:=[(8,9000,0)],lbs:=[(9000,2)]})],nils:=[(8,[1])]}
def PY:Ann:={}
def Do:Ann:={}
def PZ:Ann:={iso:=false,hl:=[16,45],ha:=[25,39,53],hb:=[51],no:=[24,38,52],nl:=[9,16,20,34,45,49],joins:=[(9,{vals:=vN [0,1,3,6]})],loops:=[(0,{vals:=vN [0,1,3,6]})]}
def Dp:Ann:={iso:=false,hl:=[7],ha:=[5,7],hb:=[2]}
def P0:Ann:={nl:=[6,8,12,14,19,21,26,28]}
def P1:Ann:={nl:=[21,26,33,38,46,51],loops:=[(0,{vals:=vN [0,1,5]})]}
def P2:Ann:={kinds:=[(16,.S),(17,.S),(18,.S),(21,.S),(45,.H)],hl:=[81,110],ha:=[89],hb:=[44],no:=[88],nl:=[46,50,51,59,62,66,75,76,77,81,83,85,95,96,107,110],lw:=[14,16,17,18,21],loops:=[(0,{vals:=vN [11,16,17,18,70,71,72,15000,15001,15002,15003,15004,15005,15006,15007],locs:=[(14,15000,0)],lbs:=[(15000,8)]})]}
def P3:Ann:={nl:=[9,21,24],loops:=[(0,{vals:=vN [1,2,5,6]})]}
def P4:Ann:={kinds:=[(4,.S)],nl:=[8,18,21,23,28,34,40,46,56,59,63,68,74,80,85,91,97,103],lw:=[4],loops:=[(0,{vals:=vN [1,3]}),(2,{vals:=vN [1,5]})]}
def P5:Ann:={kinds:=[(6,.S)],nl:=[18,20,25,29,34],lw:=[6],loops:=[(0,{vals:=vN [0,12,13,14]})]}
def P6:Ann:={iso:=false,kinds:=[(7,.S),(10,.S)],hl:=[16],nl:=[16,18,20,29,34,37,43,46,51,53,55,62,67,71,79,81,84,86,90,92,97,102,106],lw:=[7,10],joins:=[(88,{vals:=vN [2,10,11]})]}
def P7:Ann:={iso:=false,kinds:=[(1,.L)],hl:=[36,41],nl:=[36,41],lw:=[2,8,12,16,20,61,63,65],loops:=[(0,{vals:=vN [23,24,2000,2001,2002,2003,2004,2005,2006,2007,2008,2009,2010,2011,2012,3000,3001,3002,3003,3004,3005,3006,3007,3008,3009,3010,3011,3012],locs:=[(1,2000,0),(2,3000,0)],lbs:=[(2000,13),(3000,13)]})],ords:=[(9,[0,1,2,3,4,5,7,8,9,10,6,11,12,13,14,15,16,17]),(11,[0,1,2,4,5,6,8,9,10,3,12,13,7,11,14,15,16,17,18,19,20])]}
def P8:Ann:={iso:=false,hl:=[7,12],nl:=[7,12]}
def P9:Ann:={iso:=false,hl:=[8,19,24],nl:=[8,12,19,24,33],ords:=[(4,[0,2,1,3])]}
def Qa:Ann:={iso:=false,kinds:=[(7,.S),(8,.S)],hl:=[36,40,47,53,71,95],fz:=[95],nl:=[10,13,19,26,36,38,40,47,49,53,63,71,73,78,82,88,92,97,102,106,112,119,127],lw:=[7,8],lm:=[(47,5,3)],cm:=[(51,5,3)],joins:=[(114,{vals:=vN [0,1,5,10,114]}),(121,{vals:=vN [0,1,5,121]})],ords:=[(23,[0,1,3,4,5,6,10,2,7,8,9,11])]}
def Qb:Ann:={iso:=false,hl:=[23],nl:=[18,23]}
def Qc:Ann:={nl:=[6,8,12,14,19,21,26,28,33,35,40,42]}
def Qd:Ann:={nl:=[21,26,33,38],loops:=[(0,{vals:=vN [0,1,5]})]}
def Qe:Ann:={nl:=[20,24],loops:=[(0,{vals:=vN [0,1,5]})]}
def Qf:Ann:={nl:=[20,24],loops:=[(0,{vals:=vN [0,1,5]})]}
def Qg:Ann:={loops:=[(0,{vals:=vN [0,1,5]})]}
def Qh:Ann:={}
def Qi:Ann:={lw:=[2],loops:=[(1,{vals:=vN [0,43,44,3000,3001,3002,3003],locs:=[(2,3000,0)],lbs:=[(3000,4)]})]}
def Qj:Ann:={iso:=false}
def Qk:Ann:={iso:=false,hl:=[10,17,21],nl:=[10,17,21,25]}
def Ql:Ann:={iso:=false}
def Qm:Ann:={iso:=false}
def Qn:Ann:={iso:=false}
def Qo:Ann:={iso:=false,hb:=[3,16],no:=[55],nl:=[40],lw:=[2,3,5,51,57],joins:=[(21,{vals:=[(0,none),(3000,none),(3001,none),(4000,none),(4001,some 3)],locs:=[(2,3000,0),(3,4000,0)],lbs:=[(3000,2),(4000,2)]}),(31,{vals:=[(0,none),(4,none),(3000,none),(3001,none),(4000,none),(4001,some 3)],locs:=[(2,3000,0),(3,4000,0)],lbs:=[(3000,2),(4000,2)]})],loops:=[(1,{vals:=[(0,none),(3000,none),(3001,none),(4000,none),(4001,some 3)],locs:=[(2,3000,0),(3,4000,0)],lbs:=[(3000,2),(4000,2)]})],nils:=[(3,[1])]}
def Qp:Ann:={iso:=false,hl:=[17],nl:=[17]}
def Qq:Ann:={kinds:=[(5,.S)],nl:=[7,12,15],lw:=[5],loops:=[(0,{vals:=vN [3,7,8,9]})]}
def Qr:Ann:={iso:=false,kinds:=[(5,.S)],nl:=[9,14],lw:=[4,5]}
def Qs:Ann:={iso:=false,nl:=[38],lw:=[4,5,17,20,23,47,59],joins:=[(29,{vals:=vN [0,6,5000,5001,5002,5003,5004,5005,5006,5007,5008,5009,5010,5011,6000,6001,6002,6003,6004,6005,6006,6007,6008,6009,6010,6011],locs:=[(4,5000,0),(5,6000,0)],lbs:=[(5000,12),(6000,12)]})],loops:=[(0,{vals:=vN [0,33,34,35,5000,5001,5002,5003,5004,5005,5006,5007,5008,5009,5010,5011,6000,6001,6002,6003,6004,6005,6006,6007,6008,6009,6010,6011],locs:=[(4,5000,0),(5,6000,0)],lbs:=[(5000,12),(6000,12)]})]}
def Qt:Ann:={iso:=false,hl:=[12],nl:=[12]}
def Qu:Ann:={iso:=false,no:=[30],lw:=[7,27],joins:=[(14,{vals:=[(0,none),(1,none),(5,some 3),(6,none)]})],loops:=[(0,{vals:=[(0,none),(1,none),(5,some 3),(6,none)]})]}
def Qv:Ann:={iso:=false,no:=[20,27],loops:=[(0,{vals:=[(0,none),(2,none),(7,some 6),(14,none),(15,none)]})]}
def Qw:Ann:={iso:=false}
def Qx:Ann:={iso:=false,hl:=[6,10],nl:=[6,10,12],lw:=[2]}
def Qy:Ann:={kinds:=[(8,.S)],nl:=[13,18,32,37,40,44,50,56,62,68,74,77,82,88,94,100,102,109,112,115,121,126,133],lw:=[8],joins:=[(116,{vals:=vN [1,9,10]})],loops:=[(0,{vals:=vN [1,3,13,14,15]}),(2,{vals:=vN [1,6,32,33,34]})]}
def Qz:Ann:={kinds:=[(5,.S),(9,.S),(26,.H)],hl:=[57,61],hb:=[25],no:=[37,63],nl:=[10,14,19,21,23,28,33,36,42,50,52,57,61],lw:=[5,9],loops:=[(0,{vals:=[(1,none),(3,some 4),(14,none),(15,none),(16,none)]}),(2,{vals:=[(1,none),(3,some 4),(5,none),(6,none),(7,some 1),(14,none),(15,none),(16,none),(28,none),(29,none),(30,none)]})]}
def QA:Ann:={kinds:=[(6,.S)],hl:=[83,98,120,127,141,145],ha:=[43],no:=[135],nl:=[14,19,24,29,31,36,41,45,51,52,53,68,73,76,83,88,92,98,102,109,113,120,127,141,145],lw:=[6],so:=[70],loops:=[(0,{vals:=vN [1,4,45,46,47]}),(2,{vals:=[(1,none),(4,none),(7,some 1)]}),(4,{vals:=[(1,none),(4,none),(7,some 1),(8,none),(9,none),(10,none),(104,none),(105,none),(106,none)]})]}
def Dq:Ann:={}
def QB:Ann:={kinds:=[(4,.S)],nl:=[14],lw:=[4],loops:=[(0,{vals:=vN [0,8,9,10]})]}
def QC:Ann:={kinds:=[(8,.S),(20,.H)],hb:=[19],nl:=[9,11,15],lw:=[6,8]}
def QD:Ann:={}
def QE:Ann:={nl:=[3]}
def QF:Ann:={nl:=[3]}
def QG:Ann:={lw:=[2]}
def QH:Ann:={}
def QI:Ann:={iso:=false,hl:=[8],nl:=[8]}
def QJ:Ann:={iso:=false,hl:=[16],nl:=[16,20,30],lw:=[6]}
def QK:Ann:={nl:=[3]}
def QL:Ann:={iso:=false,nl:=[5,6,7,8],lw:=[4]}
def QM:Ann:={iso:=false,kinds:=[(11,.S),(12,.S)],hl:=[16,26,30,67,79],ha:=[41],no:=[40],nl:=[16,20,26,30,34,36,48,54,57,61,67,74,79,83],lw:=[8,9,11,12],joins:=[(20,{vals:=vN [0,1,3,6,9000,9001,9002,9003],locs:=[(8,9000,0)],lbs:=[(9000,4)]})],loops:=[(0,{vals:=vN [0,3,6,48,49,50,9000,9001,9002,9003,10000,10001,10002],locs:=[(8,9000,0),(9,10000,0)],lbs:=[(9000,4),(10000,3)]})]}
def QN:Ann:={nl:=[18,26],loops:=[(0,{vals:=vN [0,3]})]}
def QO:Ann:={nl:=[3,7]}
def QP:Ann:={nl:=[3,7]}
def QQ:Ann:={nl:=[17],loops:=[(0,{vals:=vN [0,3]})]}
def QR:Ann:={iso:=false,kinds:=[(5,.S)],hl:=[11],ha:=[20],hb:=[3],no:=[19],nl:=[11,14,16],lw:=[5],loops:=[(0,{vals:=vN [3,6,7,8]})]}
def Ds:Ann:={iso:=false,hl:=[7],ha:=[5,7],hb:=[2]}
def Dt:Ann:={iso:=false,hl:=[7],ha:=[5,7],hb:=[2]}
def Du:Ann:={iso:=false,hl:=[7],ha:=[5,7],hb:=[2]}
def QS:Ann:={iso:=false,hl:=[7],ha:=[11],no:=[10],nl:=[7,8],sl1:=[12],sl0:=[14]}
def QT:Ann:={lw:=[2]}
def QU:Ann:={iso:=false,hl:=[10,17,25],hb:=[27],nl:=[10,17,25]}
def QV:Ann:={iso:=false,hl:=[8,12],nl:=[8,12]}
def Dv:Ann:={}
def QW:Ann:={kinds:=[(5,.S)],nl:=[7,12,14],lw:=[5],loops:=[(0,{vals:=vN [3,7,8,9]})]}
def QX:Ann:={iso:=false,kinds:=[(8,.S)],hl:=[17,22,55],nl:=[11,17,22,25,35,39,46,48,55,60,63],lw:=[8],joins:=[(13,{vals:=vN [0,1,5,7]})]}
def LF:Ann:={iso:=false,hl:=[12,16,20,24,31,48],nl:=[12,16,20,24,27,31,35,41,46,48]}
def LG:Ann:={iso:=false,kinds:=[(7,.S)],hl:=[13,56,63,71,82],ha:=[90],no:=[89],nl:=[13,15,17,21,25,29,33,37,41,51,56,63,65,71,82,84,86,103,111,114],lw:=[7],joins:=[(19,{vals:=vN [0,1,5,7,8,19]}),(58,{vals:=vN [0,1,5,7,9]})]}
def LH:Ann:={iso:=false,kinds:=[(6,.S),(7,.S)],hl:=[13,16],nl:=[13,16,18,22,32,37,46,48,56,58,66,68,76,78,86,88],lw:=[6,7]}
def LI:Ann:={nl:=[6,8,12,14]}
def LJ:Ann:={nl:=[6,8,12,14,19,21,26,28,33,35,40,42]}
def LK:Ann:={}
def LL:Ann:={}
def LM:Ann:={}
def LN:Ann:={}
def LO:Ann:={loops:=[(0,{vals:=vN [0,4,30,31]})]}
def LP:Ann:={}
def LQ:Ann:={iso:=false}
def LR:Ann:={iso:=false}
def LS:Ann:={iso:=false,nl:=[8]}
def LU:Ann:={iso:=false,kinds:=[(9,.S)],hl:=[67],no:=[25,79],nl:=[32,35,37,67],lw:=[4,5,7,9],loops:=[(0,{vals:=vN [0,1,6,5000,5001,5002,5003,5004,5005,6000,6001,6002,6003,6004,6005],locs:=[(4,5000,0),(5,6000,0)],lbs:=[(5000,6),(6000,6)]}),(2,{vals:=vN [0,1,6,5000,5001,5002,5003,5004,5005,6000,6001,6002,6003,6004,6005],locs:=[(4,5000,0),(5,6000,0)],lbs:=[(5000,6),(6000,6)]}),(4,{vals:=vN [0,1,6,27,28,29,5000,5001,5002,5003,5004,5005,6000,6001,6002,6003,6004,6005,8000,8001,8002],locs:=[(4,5000,0),(5,6000,0),(7,8000,0)],lbs:=[(5000,6),(6000,6),(8000,3)]})],ords:=[(3,[0,2,3,1,4,5])]}
def LV:Ann:={kinds:=[(5,.S)],nl:=[7,12,14],lw:=[5],loops:=[(0,{vals:=vN [3,7,8,9]})]}
def LW:Ann:={}
def LX:Ann:={iso:=false}
def LY:Ann:={}
def LZ:Ann:={kinds:=[(7,.S)],nl:=[14,17,21,27,33],lw:=[7],loops:=[(0,{vals:=vN [0,1,5,9,10,11]})]}
def L4:Ann:={nl:=[3]}
def L5:Ann:={nl:=[3]}
def L6:Ann:={kinds:=[(6,.S)],nl:=[12,13],lw:=[6],loops:=[(0,{vals:=vN [0,1,7,8,9]})]}
def L8:Ann:={iso:=false,hl:=[125],no:=[141],nl:=[8,11,16,23,30,38,47,55,57,62,64,73,75,82,84,91,93,98,100,102,104,111,113,125,134,136,140],ords:=[(15,[0,1,2,3,4,5,7,6,8]),(18,[0,1,3,4,5,6,7,2,8]),(26,[0,1,2,3,4,5,7,8,9,6,10,11])]}
def L9:Ann:={iso:=false,hl:=[9,18],ha:=[12],no:=[11],nl:=[9,10,18]}
def Ma:Ann:={nl:=[11,13,15,17,19,38,49],joins:=[(30,{vals:=vN [2,5,6,7,8,9,19,30]}),(41,{vals:=vN [2,5,6,7,8,9,19,41]}),(53,{vals:=vN [5,6,7,8,9,19,53]}),(106,{vals:=vN [5,6,7,8,9,106]}),(1000000,{vals:=vN [5,6,7,8,9]})]}
def Mb:Ann:={nl:=[5,25,30],joins:=[(6,{vals:=vN [1,5,6]}),(11,{vals:=vN [1,5,11]}),(17,{vals:=vN [1,5,17]})]}
def Mc:Ann:={kinds:=[(5,.S)],no:=[19,26,29],nl:=[7,10,12,18,25],lw:=[5]}
def Md:Ann:={}
def Me:Ann:={nl:=[5,7]}
def Mf:Ann:={nl:=[3]}
def Mg:Ann:={iso:=false,nl:=[5,6,7,9],lw:=[4]}
def Mh:Ann:={iso:=false,kinds:=[(9,.S)],hl:=[14,20],nl:=[14,20,25,35,42,46,51,55,60,66,74,77,79,82,85,94,96,98,100,103,105,107,114,116,118,121,125,129,131,133,139,141,143,150,152,154,157,159,161,164,166,168,173,175,177,179,181,185,187,192,193,198,200,202,205,207,210,218,221,225,226,229,230],lw:=[6,9],joins:=[(87,{vals:=vN [0,4,5,42,87,7000,7001,7002,7003],locs:=[(6,7000,0)],lbs:=[(7000,4)]}),(110,{vals:=vN [0,4,5,42,110,7000,7001,7002,7003],locs:=[(6,7000,0)],lbs:=[(7000,4)]}),(1000000,{vals:=vN [0,4,5,7000,7001,7002,7003],locs:=[(6,7000,0)],lbs:=[(7000,4)]})],loops:=[(1,{vals:=vN [0,4,5,8,7000,7001,7002,7003],locs:=[(6,7000,0)],lbs:=[(7000,4)]})],ords:=[(23,[0,1,2,3,4,5,6,7,9,10,11,12,13,14,8,15,16,17]),(26,[0,1,2,3,4,5,7,8,9,6,10]),(36,[0,1,2,3,4,5,6,7,8,9,12,13,14,15,10,11,16,17]),(40,[0,1,2,3,4,5,7,6,8])]}
def Mi:Ann:={nl:=[15],loops:=[(0,{vals:=vN [0,1,7,8]})]}
def Mj:Ann:={nl:=[5,8,12,16,21,27,31,36,41,45,50,53,59,65,70]}
def Mk:Ann:={kinds:=[(8,.S),(9,.S)],nl:=[21,25,27,28],lw:=[8,9],loops:=[(0,{vals:=vN [1,2,15,16,17]})]}
def Ml:Ann:={nl:=[6,8,12,15,21]}
def Mm:Ann:={nl:=[3]}
def Mn:Ann:={nl:=[15],loops:=[(0,{vals:=vN [0,1,7,8]})]}
def Mo:Ann:={nl:=[5,6]}
def Mp:Ann:={nl:=[15],loops:=[(0,{vals:=vN [0,1,7,8]})]}
def Mq:Ann:={nl:=[5,6]}
def Mr:Ann:={}
def Mt:Ann:={no:=[13,19],nl:=[8,10,16,18],lw:=[6]}
def Mu:Ann:={nl:=[9,21,25],loops:=[(0,{vals:=vN [1,2,5,6]})]}
def Mv:Ann:={nl:=[6,12,16,21,25],loops:=[(0,{vals:=vN [1,3]})]}
def Mw:Ann:={nl:=[9,21,24],loops:=[(0,{vals:=vN [1,2,5,6]})]}
def Mx:Ann:={nl:=[7,17,20,25,31,34,38,43,49],loops:=[(0,{vals:=vN [1,3]}),(2,{vals:=vN [1,4]})]}
def My:Ann:={nl:=[15],loops:=[(0,{vals:=vN [0,1,7,8]})]}
def Mz:Ann:={}
def MA:Ann:={}
def MB:Ann:={iso:=false,kinds:=[(6,.S),(7,.S),(9,.S)],no:=[28,45,55,65],nl:=[24,25,42],lw:=[4,6,7,9],joins:=[(12,{vals:=vN [0,1,5000,5001,5002,5003,5004,5005],locs:=[(4,5000,0)],lbs:=[(5000,6)]})]}
def MD:Ann:={no:=[8]}
def ME:Ann:={kinds:=[(6,.S)],nl:=[11,16,21,27,31,37,43,45,53,55,60,66],lw:=[6],loops:=[(0,{vals:=vN [1,2,37,38,39]})]}
def MF:Ann:={kinds:=[(5,.S),(8,.S)],nl:=[13,18,22,31,37,39,44,46,51,53,58,61,66,71,76,77],lw:=[5,8],loops:=[(0,{vals:=vN [1,71,72,73]})]}
def MG:Ann:={lw:=[2]}
def MH:Ann:={nl:=[16],loops:=[(0,{vals:=vN [0,1,5]})]}
def MI:Ann:={iso:=false,hl:=[8],nl:=[8]}
def MJ:Ann:={iso:=false,hl:=[23,28,39,44],nl:=[14,23,28,33,39,44]}
def MK:Ann:={iso:=false,kinds:=[(7,.S)],nl:=[13,15],lw:=[7],loops:=[(0,{vals:=vN [0,2,8,9,10]})]}
def ML:Ann:={iso:=false,nl:=[6,28,34,39,41,43,49,53],lw:=[4]}
def MM:Ann:={nl:=[11,23],loops:=[(0,{vals:=vN [0,5,6,7]})]}
def MN:Ann:={joins:=[(4,{vals:=vN [3,4]}),(9,{vals:=vN [3,9]}),(14,{vals:=vN [3,14]}),(25,{vals:=[(25,none)]})]}
def MP:Ann:={lw:=[2]}
def MQ:Ann:={lw:=[2]}
def MS:Ann:={iso:=false,nl:=[10,12,16,21,23,27,31,39,41,47,49,55,57,61,63],lw:=[6]}
def MU:Ann:={iso:=false,kinds:=[(7,.S)],nl:=[9,10,13,17],lw:=[7]}
def MV:Ann:={iso:=false,kinds:=[(9,.S)],hb:=[7,31],no:=[45],nl:=[11,14,19,24,29,33,38,42,43],lw:=[6,7,9,47],loops:=[(0,{vals:=[(0,none),(4,none),(33,none),(34,none),(35,none),(7000,none),(7001,none),(7002,none),(7003,none),(8000,none),(8001,none),(8002,none),(8003,some 4)],locs:=[(6,7000,0),(7,8000,0)],lbs:=[(7000,4),(8000,4)]})],nils:=[(7,[3])]}
def MW:Ann:={iso:=false,kinds:=[(8,.S),(12,.S)],no:=[61],nl:=[14,16,20,26,33,37,42,45,50,55,58,59,66],lw:=[6,8,12],joins:=[(17,{vals:=vN [0,4,5,7,7000,7001,7002,7003],locs:=[(6,7000,0)],lbs:=[(7000,4)]})],loops:=[(0,{vals:=[(0,none),(4,none),(7,none),(8,none),(10,some 4),(50,none),(51,none),(52,none),(7000,none),(7001,none),(7002,none),(7003,none)],locs:=[(6,7000,0)],lbs:=[(7000,4)]})]}
def MX:Ann:={iso:=false,kinds:=[(7,.S)],hl:=[47,54,60,69,90,105,110,127],ha:=[77],no:=[76],nl:=[12,15,17,19,22,26,30,35,40,47,54,56,60,69,71,73,84,90,92,95,105,107,110,112,117,119,121,127],lw:=[6,7],joins:=[(49,{vals:=vN [0,5,7,8,7000,7001,7002,7003],locs:=[(6,7000,0)],lbs:=[(7000,4)]}),(113,{vals:=vN [9,10,7000,7001,7002,7003],locs:=[(6,7000,0)],lbs:=[(7000,4)]})],ords:=[(2,[0,1,2,3,4,5,7,6,8])]}
def MY:Ann:={nl:=[14,18],loops:=[(0,{vals:=vN [0,3]})]}
def MZ:Ann:={nl:=[4,5]}
def M0:Ann:={}
def M2:Ann:={}
def M3:Ann:={iso:=false,kinds:=[(3,.S),(4,.S),(5,.S)],hl:=[17,51,93],no:=[65],nl:=[12,17,22,40,44,51,62,64,79,93],lw:=[2,3,4,5]}
def M4:Ann:={nl:=[6,8,11,16,23,30,36,45,54,58,63,65],lw:=[2,4,17,24,31,37,46,55,66,67],joins:=[(12,{vals:=vN [1,11,12,3000,3001,3002,3003,3004,3005,5000,5001,5002,5003,5004,5005],locs:=[(2,3000,0),(4,5000,0)],lbs:=[(3000,6),(5000,6)]}),(19,{vals:=vN [1,11,19,3000,3001,3002,3003,3004,3005,5000,5001,5002,5003,5004,5005],locs:=[(2,3000,0),(4,5000,0)],lbs:=[(3000,6),(5000,6)]}),(26,{vals:=vN [1,11,26,3000,3001,3002,3003,3004,3005,5000,5001,5002,5003,5004,5005],locs:=[(2,3000,0),(4,5000,0)],lbs:=[(3000,6),(5000,6)]})]}
def M5:Ann:={nl:=[6,10,14,20,24,30,34,39,44,54,59,63,67,73,80,86,96,100,106],joins:=[(47,{vals:=vN [1,6,47]})],loops:=[(1,{vals:=vN [1,80,81,82]})]}
def M7:Ann:={nl:=[15],loops:=[(0,{vals:=vN [0,1,7,8]})]}
def M8:Ann:={nl:=[5,6]}
def M9:Ann:={kinds:=[(5,.S)],nl:=[7,12,14],lw:=[5],loops:=[(0,{vals:=vN [3,7,8,9]})]}
def Na:Ann:={nl:=[5,7]}
def Nb:Ann:={iso:=false,hb:=[3,5],no:=[28,35],lw:=[2,3,30,37],joins:=[(10,{vals:=[(0,none),(4,none),(3000,none),(3001,none),(3002,none),(3003,none),(3004,none),(3005,none),(4000,none),(4001,none),(4002,none),(4003,none),(4004,some 1),(4005,some 6)],locs:=[(2,3000,0),(3,4000,0)],lbs:=[(3000,6),(4000,6)]})],loops:=[(0,{vals:=[(0,none),(4,none),(3000,none),(3001,none),(3002,none),(3003,none),(3004,none),(3005,none),(4000,none),(4001,none),(4002,none),(4003,none),(4004,some 1),(4005,some 6)],locs:=[(2,3000,0),(3,4000,0)],lbs:=[(3000,6),(4000,6)]})],nils:=[(3,[4,5])]}
def Nc:Ann:={iso:=false,no:=[17],joins:=[(9,{vals:=[(0,none),(3,some 6)]})],loops:=[(0,{vals:=[(0,none),(3,some 6)]})]}
def Nf:Ann:={iso:=false,kinds:=[(3,.S),(4,.S)],hl:=[12,17,24,28,35,39],nl:=[12,17,24,28,31,35,39,42,44,48,53,58],lw:=[3,4]}
def Ng:Ann:={iso:=false,kinds:=[(3,.S)],no:=[24],nl:=[9,15,19,29,31,36,41],lw:=[3],loops:=[(1,{vals:=vN [3,24,25,26]})]}
noncomputable def Gg:List (Nat×(Func×Ann)):=[
(3,(Tryz.f3,Up)),
(4,(Tryz.f4,Uq)),
(5,(Tryz.f5,Ur)),
(6,(Tryz.f6,Us)),
(7,(Tryz.f7,Ut)),
(8,(Tryz.f8,Uu)),
(9,(Tryz.f9,Uv)),
(10,(Tryz.f10,PE)),
(11,(Tryz.f11,PF)),
(12,(Tryz.f12,PG)),
(13,(Tryz.f13,PH)),
(14,(Tryz.f14,PI)),
(15,(Tryz.f15,PK)),
(16,(Tryz.f16,PL)),
(17,(Tryz.f17,PM)),
(18,(Tryz.f18,PN)),
(19,(Tryz.f19,PO)),
(20,(Tryz.f20,PP)),
(21,(Tryz.f21,PQ)),
(22,(Tryz.f22,PS)),
(23,(Tryz.f23,PT)),
(25,(Tryz.f25,PU)),
(26,(Tryz.f26,PV)),
(27,(Tryz.f27,PW)),
(28,(Tryz.f28,PX)),
(29,(Tryz.f29,PY)),
(31,(Tryz.f31,PZ)),
(33,(Tryz.f33,P0)),
(34,(Tryz.f34,P1)),
(35,(Tryz.f35,P2)),
(36,(Tryz.f36,P3)),
(37,(Tryz.f37,P4)),
(38,(Tryz.f38,P5)),
(39,(Tryz.f39,P6)),
(40,(Tryz.f40,P7)),
(41,(Tryz.f41,P8)),
(42,(Tryz.f42,P9)),
(43,(Tryz.f43,Qa)),
(44,(Tryz.f44,Qb)),
(45,(Tryz.f45,Qc)),
(46,(Tryz.f46,Qd)),
(47,(Tryz.f47,Qe)),
(48,(Tryz.f48,Qf)),
(49,(Tryz.f49,Qg)),
(50,(Tryz.f50,Qh)),
(51,(Tryz.f51,Qi)),
(53,(Tryz.f53,Qj)),
(54,(Tryz.f54,Qk)),
(55,(Tryz.f55,Ql)),
(56,(Tryz.f56,Qm)),
(57,(Tryz.f57,Qn)),
(58,(Tryz.f58,Qo)),
(59,(Tryz.f59,Qp)),
(60,(Tryz.f60,Qq)),
(61,(Tryz.f61,Qr)),
(62,(Tryz.f62,Qs)),
(63,(Tryz.f63,Qt)),
(64,(Tryz.f64,Qu)),
(65,(Tryz.f65,Qv)),
(66,(Tryz.f66,Qw)),
(67,(Tryz.f67,Qx)),
(68,(Tryz.f68,Qy)),
(69,(Tryz.f69,Qz)),
(70,(Tryz.f70,QA)),
(72,(Tryz.f72,QB)),
(73,(Tryz.f73,QC)),
(74,(Tryz.f74,QD)),
(75,(Tryz.f75,QE)),
(76,(Tryz.f76,QF)),
(77,(Tryz.f77,QG)),
(78,(Tryz.f78,QH)),
(79,(Tryz.f79,QI)),
(80,(Tryz.f80,QJ)),
(81,(Tryz.f81,QK)),
(83,(Tryz.f83,QL)),
(84,(Tryz.f84,QM)),
(85,(Tryz.f85,QN)),
(86,(Tryz.f86,QO)),
(87,(Tryz.f87,QP)),
(88,(Tryz.f88,QQ)),
(89,(Tryz.f89,QR)),
(93,(Tryz.f93,QS)),
(94,(Tryz.f94,QT)),
(95,(Tryz.f95,QU)),
(96,(Tryz.f96,QV)),
(98,(Tryz.f98,QW)),
(99,(Tryz.f99,QX)),
(100,(Tryz.f100,LF)),
(101,(Tryz.f101,LG)),
(102,(Tryz.f102,LH)),
(103,(Tryz.f103,LI)),
(104,(Tryz.f104,LJ)),
(105,(Tryz.f105,LK)),
(106,(Tryz.f106,LL)),
(107,(Tryz.f107,LM)),
(108,(Tryz.f108,LN)),
(109,(Tryz.f109,LO)),
(110,(Tryz.f110,LP)),
(111,(Tryz.f111,LQ)),
(112,(Tryz.f112,LR)),
(113,(Tryz.f113,LS)),
(114,(Tryz.f114,LU)),
(115,(Tryz.f115,LV)),
(117,(Tryz.f117,LW)),
(118,(Tryz.f118,LX)),
(119,(Tryz.f119,LY)),
(120,(Tryz.f120,LZ)),
(121,(Tryz.f121,L4)),
(122,(Tryz.f122,L5)),
(123,(Tryz.f123,L6)),
(124,(Tryz.f124,L8)),
(125,(Tryz.f125,L9)),
(126,(Tryz.f126,Ma)),
(127,(Tryz.f127,Mb)),
(128,(Tryz.f128,Mc)),
(129,(Tryz.f129,Md)),
(130,(Tryz.f130,Me)),
(131,(Tryz.f131,Mf)),
(132,(Tryz.f132,Mg)),
(133,(Tryz.f133,Mh)),
(134,(Tryz.f134,Mi)),
(135,(Tryz.f135,Mj)),
(136,(Tryz.f136,Mk)),
(137,(Tryz.f137,Ml)),
(138,(Tryz.f138,Mm)),
(139,(Tryz.f139,Mn)),
(140,(Tryz.f140,Mo)),
(141,(Tryz.f141,Mp)),
(142,(Tryz.f142,Mq)),
(144,(Tryz.f144,Mr)),
(145,(Tryz.f145,Mt)),
(146,(Tryz.f146,Mu)),
(147,(Tryz.f147,Mv)),
(148,(Tryz.f148,Mw)),
(149,(Tryz.f149,Mx)),
(150,(Tryz.f150,My)),
(151,(Tryz.f151,Mz)),
(152,(Tryz.f152,MA)),
(153,(Tryz.f153,MB)),
(154,(Tryz.f154,MD)),
(158,(Tryz.f158,ME)),
(159,(Tryz.f159,MF)),
(160,(Tryz.f160,MG)),
(161,(Tryz.f161,MH)),
(162,(Tryz.f162,MI)),
(163,(Tryz.f163,MJ)),
(164,(Tryz.f164,MK)),
(165,(Tryz.f165,ML)),
(166,(Tryz.f166,MM)),
(167,(Tryz.f167,MN)),
(168,(Tryz.f168,MP)),
(169,(Tryz.f169,MQ)),
(170,(Tryz.f170,MS)),
(171,(Tryz.f171,MU)),
(172,(Tryz.f172,MV)),
(173,(Tryz.f173,MW)),
(174,(Tryz.f174,MX)),
(175,(Tryz.f175,MY)),
(176,(Tryz.f176,MZ)),
(177,(Tryz.f177,M0)),
(178,(Tryz.f178,M2)),
(179,(Tryz.f179,M3)),
(182,(Tryz.f182,M4)),
(183,(Tryz.f183,M5)),
(184,(Tryz.f184,M7)),
(185,(Tryz.f185,M8)),
(186,(Tryz.f186,M9)),
(187,(Tryz.f187,Na)),
(188,(Tryz.f188,Nb)),
(189,(Tryz.f189,Nc)),
(190,(Tryz.f190,Nf)),
(194,(Tryz.f194,Ng))]
def DU:List (Nat×(Func×Ann))->Nat->Option (Func×Ann)
 |[],_=>none
 |(k,x):: r,t=>bif Nat.beq k t then some x else DU r t
def own:FuncId->Option Nat:=fun f=>bif Nat.beq f 97 then some 1 else bif Nat.beq f 177 then some 1 else bif Nat.beq f 178 then some 4 else none
noncomputable def other:FuncId->Option ((FuncId->List AV->M AV)->List AV->M AV):=fun f=>
 bif Nat.beq f 24 then some (qn)else bif Nat.beq f 30 then some (ew T 25)else bif Nat.beq f 32 then some (cz T 28)else bif Nat.beq f 71 then some (ew T 22)else bif Nat.beq f 82 then some (Bt 26 .i64 (.agg [.int .i64 0,.int .i64 0,.sl [],.sl []]))else bif Nat.beq f 90 then some (cz T 24)else bif Nat.beq f 91 then some (cz T 31)else bif Nat.beq f 92 then some (cz T 32)else bif Nat.beq f 97 then some (ew T 27)else bif Nat.beq f 116 then some (sS)else bif Nat.beq f 157 then some (lN)else none
noncomputable def pg:Pg:={ T:=T,funcs:=DU Gg,own:=own,other:=other,nw:=fun f=>bif Nat.beq f 32 then true else bif Nat.beq f 90 then true else bif Nat.beq f 91 then true else bif Nat.beq f 92 then true else false }
noncomputable def zN(call:FuncId->List AV->M AV):FuncId->List AV->M AV:=fun f args=>bif pg.iso f then dy (call f args)else call f args
def hJ:fR pg:=by
 intro f E hE call calls hc;have h0:other f=some E:=hE;unfold other at h0;rcases fB h0 with rfl|h0
 ·exact Ir _ _ hc
 rcases fB h0 with rfl|h0
 ·exact o7 _ _ _ _
 rcases fB h0 with rfl|h0
 ·exact mz _ _ _ _
 rcases fB h0 with rfl|h0
 ·exact o7 _ _ _ _
 rcases fB h0 with rfl|h0
 ·exact I1 _ _ _ _ _ hc
 rcases fB h0 with rfl|h0
 ·exact mz _ _ _ _
 rcases fB h0 with rfl|h0
 ·exact mz _ _ _ _
 rcases fB h0 with rfl|h0
 ·exact mz _ _ _ _
 rcases fB h0 with rfl|h0
 ·exact o7 _ _ _ _
 rcases fB h0 with rfl|h0
 ·exact cM.const _
 rcases fB h0 with rfl|h0
 ·exact cM.const _
 cases h0
structure RV (m:M AV)
structure RL (m:M (List AV))
structure RI (m:AV)
instance {m:M AV}:CoeOut (RV m) (M AV):=⟨fun _=>m⟩
instance {m:M (List AV)}:CoeOut (RL m) (M (List AV)):=⟨fun _=>m⟩
instance {m:AV}:CoeOut (RI m) AV:=⟨fun _=>m⟩
def qi(n:Int):RI (AV.int .i64 n):=⟨⟩
def qc(x:AV):RI (AV.ip (aa x)):=⟨⟩
structure RM (l:List AV)
instance {l:List AV}:CoeOut (RM l) (List AV):=⟨fun _=>l⟩
def SN(v:List AV):RM [ab v 0,ab v 1,ab v 2]:=⟨⟩
def nO(v l:List AV):RM (ab v 0::ab v 1::ab v 2::l):=⟨⟩
def gy(v:List AV):RM [ab v 0,ab v 1,ab v 2,ab v 3]:=⟨⟩
def oF(v l:List AV):RM (ab v 0::ab v 1::ab v 2::ab v 3::l):=⟨⟩
def sO(v:List AV):RM [ab v 0,ab v 1,ab v 2,ab v 3,ab v 4]:=⟨⟩
def wb(v l:List AV):RM (ab v 0::ab v 1::ab v 2::ab v 3::ab v 4::l):=⟨⟩
def uQ(v:List AV):RM [ab v 0,ab v 1,ab v 2,ab v 3,ab v 4,ab v 5]:=⟨⟩
def Wh(v l:List AV):RM (ab v 0::ab v 1::ab v 2::ab v 3::ab v 4::ab v 5::l):=⟨⟩
def SQ(v l:List AV):RM (ab v 0::ab v 1::ab v 2::ab v 3::ab v 4::ab v 5::ab v 6::l):=⟨⟩
def SO(v:List AV):RM [ab v 0,ab v 1,ab v 2,ab v 3,ab v 4,ab v 5,ab v 6,ab v 7]:=⟨⟩
def Wi(v l:List AV):RM (ab v 0::ab v 1::ab v 2::ab v 3::ab v 4::ab v 5::ab v 6::ab v 7::l):=⟨⟩
def Wj(v l:List AV):RM (ab v 0::ab v 1::ab v 2::ab v 3::ab v 4::ab v 5::ab v 6::ab v 7::ab v 8::l):=⟨⟩
def Ih(v:List AV):RM [ab v 0,ab v 1,ab v 2,ab v 3,ab v 4,ab v 5,ab v 6,ab v 7,ab v 8,ab v 9,ab v 10,ab v 11]:=⟨⟩
def SP(v l:List AV):RM (ab v 0::ab v 1::ab v 2::ab v 3::ab v 4::ab v 5::ab v 6::ab v 7::ab v 8::ab v 9::ab v 10::ab v 11::l):=⟨⟩
def m7(v:List AV):RM [ab v 0,ab v 1,ab v 2,ab v 3,ab v 4,ab v 5,ab v 6,ab v 7,ab v 8,ab v 9,ab v 10,ab v 11,ab v 12]:=⟨⟩
def WO(v l:List AV):RM (ab v 0::ab v 1::ab v 2::ab v 3::ab v 4::ab v 5::ab v 6::ab v 7::ab v 8::ab v 9::ab v 10::ab v 11::ab v 12::l):=⟨⟩
def eh(t:TypeId)(p:AV)(f:AV->M (AV)):RV (ar (bS (ax T t p)) f):=⟨⟩
def cq(t:TypeId)(p:AV)(i:Nat)(f:AV->M (AV)):RV (ar (bS (ah T t p i)) f):=⟨⟩
def aX(o:BinOp)(t:TypeId)(x y:AV)(f:AV->M (AV)):RV (ar (bS (cB T o t x y)) f):=⟨⟩
def cG(t:TypeId)(p:AV)(f:AV->M (AV)):RV (ar (bS (bu T t p)) f):=⟨⟩
def jJ(t:TypeId)(p i:AV)(f:AV->M (AV)):RV (ar (bS (aA T t p i)) f):=⟨⟩
def dY(p:AV)(f:AV->M (AV)):RV (ar (bS (ko p)) f):=⟨⟩
def iC(b:Bool)(t:TypeId)(l:List (Nat×AV))(f:AV->M (AV)):RV (ar (bS (cH T b t l)) f):=⟨⟩
def mb(o:UnOp)(x:AV)(f:AV->M (AV)):RV (ar (bS (Jh o x)) f):=⟨⟩
def jE(x:AV)(i:Nat)(f:AV->M (AV)):RV (ar (bS (dA x i)) f):=⟨⟩
def qC(t:TypeId)(n:Nat)(l:List (Nat×AV))(f:AV->M (AV)):RV (ar (bS (aM T t n l)) f):=⟨⟩
def eI(t:TypeId)(p:AV)(f:AV->M (AV)):RV (ar (bg T t p) f):=⟨⟩
def m6(t:TypeId)(p v:AV)(f:AV->M (AV)):RV (ar (bN T t p v) f):=⟨⟩
def iQ(n:Nat)(x:AV)(f:AV->M (AV)):RV (ar (ct n x) f):=⟨⟩
def fE(n:Nat)(l:List Nat)(x:AV)(f:AV->M (AV)):RV (ar (bH n l x) f):=⟨⟩
def xu(x:AV)(f:AV->M (AV)):RV (ar (fW x) f):=⟨⟩
def aL(t:TypeId)(p:AV)(i:Nat)(u:TypeId)(f:AV->M (AV)):RV (ar (bS (ah T t p i)) fun v=>ar (bS (ax T u v)) f):=⟨⟩
def eg(t:TypeId)(p i:AV)(u:TypeId)(f:AV->M (AV)):RV (ar (bS (aA T t p i)) fun v=>ar (bS (ax T u v)) f):=⟨⟩
def bZ(o:BinOp)(t:TypeId)(x y:AV)(m n:M (AV)):RV (ar (bS (cB T o t x y)) fun v=>aC v m n):=⟨⟩
def dJ(c:AV)(m:M (List AV))(f:AV->M (AV)):RV (ar (aO c true 1 m) fun w=>ar (bS (gx c (ab w 0) (AV.bool false))) f):=⟨⟩
def eH(c:AV)(m:M (List AV))(f:AV->M (AV)):RV (ar (aO c false 1 m) fun w=>ar (bS (gx c (AV.bool true) (ab w 0))) f):=⟨⟩
def Lr(t:TypeId)(p:AV)(f:AV->M (List AV)):RL (ar (bS (ax T t p)) f):=⟨⟩
def BD(t:TypeId)(p:AV)(i:Nat)(f:AV->M (List AV)):RL (ar (bS (ah T t p i)) f):=⟨⟩
def cI(o:BinOp)(t:TypeId)(x y:AV)(f:AV->M (List AV)):RL (ar (bS (cB T o t x y)) f):=⟨⟩
def AZ(c x y:AV)(f:AV->M (List AV)):RL (ar (bS (gx c x y)) f):=⟨⟩
def l8(t:TypeId)(p:AV)(f:AV->M (List AV)):RL (ar (bS (bu T t p)) f):=⟨⟩
def xr(t:TypeId)(p i:AV)(f:AV->M (List AV)):RL (ar (bS (aA T t p i)) f):=⟨⟩
def WN(p:AV)(f:AV->M (List AV)):RL (ar (bS (ko p)) f):=⟨⟩
def SG(b:Bool)(t:TypeId)(l:List (Nat×AV))(f:AV->M (List AV)):RL (ar (bS (cH T b t l)) f):=⟨⟩
def l7(o:UnOp)(x:AV)(f:AV->M (List AV)):RL (ar (bS (Jh o x)) f):=⟨⟩
def Tv(t:TypeId)(n:Nat)(l:List (Nat×AV))(f:AV->M (List AV)):RL (ar (bS (aM T t n l)) f):=⟨⟩
def Xj(t:TypeId)(p:AV)(f:AV->M (List AV)):RL (ar (bg T t p) f):=⟨⟩
def bA(t:TypeId)(p:AV)(i:Nat)(u:TypeId)(f:AV->M (List AV)):RL (ar (bS (ah T t p i)) fun v=>ar (bS (ax T u v)) f):=⟨⟩
def WM(t:TypeId)(p i:AV)(u:TypeId)(f:AV->M (List AV)):RL (ar (bS (aA T t p i)) fun v=>ar (bS (ax T u v)) f):=⟨⟩
end Go.Proofs.YtbndmpiddinalacGreatDoor
namespace Go.Proofs.YtbndmpiddinalacGreatDoor
open Go Go.Av
set_option maxRecDepth 1000000
instance dr0:Dr:=⟨False⟩
def Ss{p:Prop}(h:Dr.on):p:=False.elim h
def OM:(tab.map fun x=>ON Tryz.prog x.1)=tab.map fun x=>some x.2:=Vc
theorem wS:(l:List (Nat×TI))->(t:Nat)->(ti:TI)->DV l t=some ti->(t,ti)∈l
 |[],t,ti,h=>by cases h
 | (k,x):: r,t,ti,h=>by
  simp only[DV]at h;cases hk:Nat.beq k t with
  |true=>
   simp_all
  |false=>
   rw[hk]at h;exact Y9 _ (wS r t ti h)
theorem uI{α β:Type}{f g:α->β}:{l:List α} ->l.map f=l.map g->∀x∈l,f x=g x
 |[],_,x,hx=>by cases hx
 |a:: l,h,x,hx=>by
  simp only[YA,Z2]at h;rcases Yn.1 hx with rfl|hx
  all_goals simp_all
def tok:TOK Tryz.prog T:=⟨fun t ti h=>uI OM (t,ti) (wS tab t ti h),Vc⟩
theorem KO:(Gg.map fun x=>Tryz.prog.funcs[x.1]?)=Gg.map fun x=>some x.2.1:=Vc
theorem De:(Gg.map fun x=>x.2.1.name== "runtime.NumGoroutine")=Gg.map fun _=>false:=Vc
theorem wR:(l:List (Nat×(Func×Ann)))->(t:Nat)->(x:Func×Ann)->DU l t=some x->(t,x)∈l
 |[],t,ti,h=>by cases h
 | (k,x):: r,t,ti,h=>by
  simp only[DU]at h;cases hk:Nat.beq k t with
  |true=>
   simp_all
  |false=>
   rw[hk]at h;exact Y9 _ (wR r t ti h)
def Ho:∀f fn a,pg.funcs f=some (fn,a)->Tryz.prog.funcs[f]? = some fn/\(fn.name== "runtime.NumGoroutine")=false:=by
 intro f fn a h
 have:=wR Gg f (fn,a) h
 grind [uI,KO,De]
end Go.Proofs.YtbndmpiddinalacGreatDoor
namespace Go.Proofs.YtbndmpiddinalacGreatDoor
open Go Go.Av Go.RowKit
set_option maxRecDepth 100000
def yV{S:aD}{β:List cF}{s:List UInt8}{r:List Value}{l:List AV}(hv:bF S β (.str s:: l) r):∃x r',r= .string x:: r'/\x.data.toList=s/\bF S β l r':=by
 simp only[bF,VR]at hv
 grind
def Ot(call:FuncId->List AV->M AV)(args:List AV)(h:Hp)(S:aD)(β:List cF)(w:World)(vs:List Value)(hr:lN call args h≠.fail)(hg:wi S β h w)(hw:Wf S w)(hh:dG S β w h)(hv:bF S β args vs):
  Calls Tryz.prog 157 vs.toArray w (fg none S β h w (lN call args h)):=by
 unfold lN at hr |-;split at hr
 ·rename_i s t;obtain⟨x,r,rfl,hx,hv⟩:=yV hv;obtain⟨y,r,rfl,hy,hv⟩:=yV hv;simp only[bF]at hv;subst hv;cases hc:decide (s.length<4294967281)with
  |false=>rw[hc]at hr;exact absurd rfl hr
  |true=>
   simp only[XL];have hlen:x.size=s.length:=by rw[<- hx,YC];rfl
   obtain⟨m,hm⟩:=hg.1.max;refine (Any.strings_Contains Xz x y m w Z7 hm).mono ?_;rintro e w' ⟨rfl,rfl⟩;exact zK hw hh (Below.refl _ _) Ss (by simp only[VR];rw[hx,hy])
 ·exact absurd rfl hr
def KP{w:World}(h:GOKw w):Lib.TabIs Tryz.prog w "strings.asciiSpace" .u8 Lib.asciiSpaceTab:=by
 obtain⟨t,fr,hp⟩:=h.asc
 have hn:Tryz.prog.globalNamed "strings.asciiSpace" = some 1:=Vc
 grind [Lib.TabIs,World.var?]
def Oq(call:FuncId->List AV->M AV)(args:List AV)(h:Hp)(S:aD)(β:List cF)(w:World)(vs:List Value)(hr:sS call args h≠.fail)(hg:wi S β h w)(hw:Wf S w)(hh:dG S β w h)(hv:bF S β args vs):
  Calls Tryz.prog 116 vs.toArray w (fg none S β h w (sS call args h)):=by
 unfold sS at hr |-;split at hr
 ·rename_i s;obtain⟨x,r,rfl,hx,hv⟩:=yV hv;simp only[bF]at hv;subst hv;cases hc:(decide (s.length<4294967281)&&s.all (fun b=>decide (b.toNat<128)))with
  |false=>rw[hc]at hr;exact absurd rfl hr
  | true=>
   simp only[XL];rw[XJ]at hc;have hlen:x.size=s.length:=by rw[<- hx,YC];rfl
   have hasc:∀(j:Nat)(b:UInt8),x.data.toList[j]? = some b->b.toNat<128:=fun j b hj=>by
    grind
   refine (Any.strings_Fields Xy Vc Vc x w Z7 hasc (KP hg.1)).mono ?_;rintro e w' ⟨rfl,rfl⟩;have hl:((Lib.fields x.data.toList).map fun l=>(⟨l.toArray⟩:ByteArray)).map (·.data.toList)=Lib.fields s:=by
    rw[hx,ZT]
    conv=>rhs;rw[<- List.map_id (Lib.fields s)]
    exact Y0 fun l _=>rfl
   have:=IU S β w.heap.size ((Lib.fields x.data.toList).map fun l=>(⟨l.toArray⟩:ByteArray)) _ hl
   simp only[ZT,YM]at this;exact Fb hw hh ((Below.refl _ _).alloc (XM _) _) Ss (Row.new w _ _) (XM _) this
 ·exact absurd rfl hr
end Go.Proofs.YtbndmpiddinalacGreatDoor
namespace Go.Proofs.YtbndmpiddinalacGreatDoor
open Go Go.Av
set_option maxRecDepth 100000
noncomputable def pd(n:Nat)(a:Ann):Cx:={ T:=T,call:=fun _ _=>gX,own:=own,iso:=fun _=>false,nw:=fun _=>false,nt:=n,ann:=a }
def iZ(n:Nat)(a:Ann):dF Tryz.prog (pd n a).own (pd n a).call:=fun f args h S β w vs hr=>absurd rfl hr
def mB(n:Nat)(a:Ann):IsoCall (pd n a):=⟨fun f args h=>Bool.noConfusion h,fun f args h=>Bool.noConfusion h⟩
def UI(e:AV)(es:List AV):cp (pd Tryz.f30.ntmps Do) (dl 0) Tryz.f30 (own 30) [.sl (e:: es)]=ar (bS (dH T 25 (.sl []) (.sl (e:: es)))) fun v=>ar (bS (some v)) ao:=Vc
def UJ:cp (pd Tryz.f30.ntmps Do) (dl 0) Tryz.f30 (own 30) [.hn]=ar (bS (some (.sl []))) ao:=Vc
def UK(l off:Nat):cp (pd Tryz.f30.ntmps Do) (dl 0) Tryz.f30 (own 30) [.hs l off 0 1 false]=ar (bS (dH T 25 (.sl []) (.hs l off 0 1 false))) fun v=>ar (bS (some v)) ao:=Vc
def UL(l off:Nat):dH T 25 (.sl []) (.hs l off 0 1 false)=some (.sl []):=by rfl
def Sz(call:FuncId->List AV->M AV)(args:List AV)(h:Hp)(S:aD)(β:List cF)(w:World)(vs:List Value)(hr:ew T 25 call args h≠.fail)(hg:wi S β h w)(hw:Wf S w)(hh:dG S β w h)(hv:bF S β args vs):
  Calls Tryz.prog 30 vs.toArray w (fg (own 30) S β h w (ew T 25 call args h)):=by
 have key:∀es,args=[.sl es]->Calls Tryz.prog 30 vs.toArray w (fg (own 30) S β h w (ew T 25 call args h)):=by
  rintro es rfl;exact (ny (cx:=pd Tryz.f30.ntmps Do) (E:=fun es h=>ew T 25 call [.sl es] h) tok (iZ _ _) (mB _ _) Tryz.func30 rfl (fun h=>by rfl) (fun e es h=>by rw[UI];exact Zf (kE _) h) (fun h=>by rw[UJ];rfl) (fun l off h=>by rw[UK,UL];rfl) hr hg hw hh hv).1
 unfold ew at hr;split at hr
 ·exact key _ rfl
 ·exact absurd rfl hr
def UP(e:AV)(es:List AV):cp (pd Tryz.f71.ntmps Dq) (dl 0) Tryz.f71 (own 71) [.sl (e:: es)]=ar (bS (dH T 22 (.sl []) (.sl (e:: es)))) fun v=>ar (bS (some v)) ao:=Vc
def UQ:cp (pd Tryz.f71.ntmps Dq) (dl 0) Tryz.f71 (own 71) [.hn]=ar (bS (some (.sl []))) ao:=Vc
def US(l off:Nat):cp (pd Tryz.f71.ntmps Dq) (dl 0) Tryz.f71 (own 71) [.hs l off 0 1 false]=ar (bS (dH T 22 (.sl []) (.hs l off 0 1 false))) fun v=>ar (bS (some v)) ao:=Vc
def UT(l off:Nat):dH T 22 (.sl []) (.hs l off 0 1 false)=some (.sl []):=by rfl
def SB(call:FuncId->List AV->M AV)(args:List AV)(h:Hp)(S:aD)(β:List cF)(w:World)(vs:List Value)(hr:ew T 22 call args h≠.fail)(hg:wi S β h w)(hw:Wf S w)(hh:dG S β w h)(hv:bF S β args vs):
  Calls Tryz.prog 71 vs.toArray w (fg (own 71) S β h w (ew T 22 call args h)):=by
 have key:∀es,args=[.sl es]->Calls Tryz.prog 71 vs.toArray w (fg (own 71) S β h w (ew T 22 call args h)):=by
  rintro es rfl;exact (ny (cx:=pd Tryz.f71.ntmps Dq) (E:=fun es h=>ew T 22 call [.sl es] h) tok (iZ _ _) (mB _ _) Tryz.func71 rfl (fun h=>by rfl) (fun e es h=>by rw[UP];exact Zf (kE _) h) (fun h=>by rw[UQ];rfl) (fun l off h=>by rw[US,UT];rfl) hr hg hw hh hv).1
 unfold ew at hr;split at hr
 ·exact key _ rfl
 ·exact absurd rfl hr
def U3(e:AV)(es:List AV):cp (pd Tryz.f97.ntmps Dv) (dl 0) Tryz.f97 (own 97) [.sl (e:: es)]=ar (bS (dH T 27 (.sl []) (.sl (e:: es)))) fun v=>ar (bS (some v)) ao:=Vc
def U4:cp (pd Tryz.f97.ntmps Dv) (dl 0) Tryz.f97 (own 97) [.hn]=ar (bS (some (.sl []))) ao:=Vc
def U5(l off:Nat):cp (pd Tryz.f97.ntmps Dv) (dl 0) Tryz.f97 (own 97) [.hs l off 0 1 false]=ar (bS (dH T 27 (.sl []) (.hs l off 0 1 false))) fun v=>ar (bS (some v)) ao:=Vc
def U6(l off:Nat):dH T 27 (.sl []) (.hs l off 0 1 false)=some (.sl []):=by rfl
def SF(call:FuncId->List AV->M AV)(args:List AV)(h:Hp)(S:aD)(β:List cF)(w:World)(vs:List Value)(hr:ew T 27 call args h≠.fail)(hg:wi S β h w)(hw:Wf S w)(hh:dG S β w h)(hv:bF S β args vs):
  Calls Tryz.prog 97 vs.toArray w (fg (own 97) S β h w (ew T 27 call args h)):=by
 have key:∀es,args=[.sl es]->Calls Tryz.prog 97 vs.toArray w (fg (own 97) S β h w (ew T 27 call args h)):=by
  rintro es rfl;exact (ny (cx:=pd Tryz.f97.ntmps Dv) (E:=fun es h=>ew T 27 call [.sl es] h) tok (iZ _ _) (mB _ _) Tryz.func97 rfl (fun h=>by rfl) (fun e es h=>by rw[U3];exact Zf (kE _) h) (fun h=>by rw[U4];rfl) (fun l off h=>by rw[U5,U6];rfl) hr hg hw hh hv).1
 unfold ew at hr;split at hr
 ·exact key _ rfl
 ·exact absurd rfl hr
def UM(e:AV)(es:List AV):cp (pd Tryz.f32.ntmps Dp) (dl 0) Tryz.f32 none [.sl (e:: es)]=ar (gf T 28 false .he (.sl (e:: es))) fun v=>ar (bS (some v)) ao:=Vc
def UN:cp (pd Tryz.f32.ntmps Dp) (dl 0) Tryz.f32 none [.hn]=ar (bS (some .hn)) ao:=Vc
def UO(l off len sz:Nat)(ag:Bool):cp (pd Tryz.f32.ntmps Dp) (dl 0) Tryz.f32 none [.hs l off len sz ag]=ar (gf T 28 false .he (.hs l off len sz ag)) fun v=>ar (bS (some v)) ao:=Vc
def SA(call:FuncId->List AV->M AV)(args:List AV)(h:Hp)(S:aD)(β:List cF)(w:World)(vs:List Value)(hr:cz T 28 call args h≠.fail)(hg:wi S β h w)(hw:Wf S w)(hh:dG S β w h)(hv:bF S β args vs):
  Calls Tryz.prog 32 vs.toArray w (fg (own 32) S β h w (cz T 28 call args h)):=by
 have ho:own 32=none:=Vc
 rw[ho];unfold cz at hr |-;split at hr
 ·exact kg (cx:=pd Tryz.f32.ntmps Dp) tok (iZ _ _) (mB _ _) Tryz.func32 rfl (fun h=>by rfl) (fun e es h=>by rw[UM];exact Zf (kE _) h) (fun h=>by rw[UN];rfl) (fun l off len sz ag h=>by rw[UO];exact Zf (kE _) h) hr hg hw hh hv
 ·exact absurd rfl hr
def UU(e:AV)(es:List AV):cp (pd Tryz.f90.ntmps Ds) (dl 0) Tryz.f90 none [.sl (e:: es)]=ar (gf T 24 false .he (.sl (e:: es))) fun v=>ar (bS (some v)) ao:=Vc
def UV:cp (pd Tryz.f90.ntmps Ds) (dl 0) Tryz.f90 none [.hn]=ar (bS (some .hn)) ao:=Vc
def UW(l off len sz:Nat)(ag:Bool):cp (pd Tryz.f90.ntmps Ds) (dl 0) Tryz.f90 none [.hs l off len sz ag]=ar (gf T 24 false .he (.hs l off len sz ag)) fun v=>ar (bS (some v)) ao:=Vc
def SC(call:FuncId->List AV->M AV)(args:List AV)(h:Hp)(S:aD)(β:List cF)(w:World)(vs:List Value)(hr:cz T 24 call args h≠.fail)(hg:wi S β h w)(hw:Wf S w)(hh:dG S β w h)(hv:bF S β args vs):
  Calls Tryz.prog 90 vs.toArray w (fg (own 90) S β h w (cz T 24 call args h)):=by
 have ho:own 90=none:=Vc
 rw[ho];unfold cz at hr |-;split at hr
 ·exact kg (cx:=pd Tryz.f90.ntmps Ds) tok (iZ _ _) (mB _ _) Tryz.func90 rfl (fun h=>by rfl) (fun e es h=>by rw[UU];exact Zf (kE _) h) (fun h=>by rw[UV];rfl) (fun l off len sz ag h=>by rw[UW];exact Zf (kE _) h) hr hg hw hh hv
 ·exact absurd rfl hr
def UX(e:AV)(es:List AV):cp (pd Tryz.f91.ntmps Dt) (dl 0) Tryz.f91 none [.sl (e:: es)]=ar (gf T 31 false .he (.sl (e:: es))) fun v=>ar (bS (some v)) ao:=Vc
def UY:cp (pd Tryz.f91.ntmps Dt) (dl 0) Tryz.f91 none [.hn]=ar (bS (some .hn)) ao:=Vc
def UZ(l off len sz:Nat)(ag:Bool):cp (pd Tryz.f91.ntmps Dt) (dl 0) Tryz.f91 none [.hs l off len sz ag]=ar (gf T 31 false .he (.hs l off len sz ag)) fun v=>ar (bS (some v)) ao:=Vc
def SD(call:FuncId->List AV->M AV)(args:List AV)(h:Hp)(S:aD)(β:List cF)(w:World)(vs:List Value)(hr:cz T 31 call args h≠.fail)(hg:wi S β h w)(hw:Wf S w)(hh:dG S β w h)(hv:bF S β args vs):
  Calls Tryz.prog 91 vs.toArray w (fg (own 91) S β h w (cz T 31 call args h)):=by
 have ho:own 91=none:=Vc
 rw[ho];unfold cz at hr |-;split at hr
 ·exact kg (cx:=pd Tryz.f91.ntmps Dt) tok (iZ _ _) (mB _ _) Tryz.func91 rfl (fun h=>by rfl) (fun e es h=>by rw[UX];exact Zf (kE _) h) (fun h=>by rw[UY];rfl) (fun l off len sz ag h=>by rw[UZ];exact Zf (kE _) h) hr hg hw hh hv
 ·exact absurd rfl hr
def U0(e:AV)(es:List AV):cp (pd Tryz.f92.ntmps Du) (dl 0) Tryz.f92 none [.sl (e:: es)]=ar (gf T 32 false .he (.sl (e:: es))) fun v=>ar (bS (some v)) ao:=Vc
def U1:cp (pd Tryz.f92.ntmps Du) (dl 0) Tryz.f92 none [.hn]=ar (bS (some .hn)) ao:=Vc
def U2(l off len sz:Nat)(ag:Bool):cp (pd Tryz.f92.ntmps Du) (dl 0) Tryz.f92 none [.hs l off len sz ag]=ar (gf T 32 false .he (.hs l off len sz ag)) fun v=>ar (bS (some v)) ao:=Vc
def SE(call:FuncId->List AV->M AV)(args:List AV)(h:Hp)(S:aD)(β:List cF)(w:World)(vs:List Value)(hr:cz T 32 call args h≠.fail)(hg:wi S β h w)(hw:Wf S w)(hh:dG S β w h)(hv:bF S β args vs):
  Calls Tryz.prog 92 vs.toArray w (fg (own 92) S β h w (cz T 32 call args h)):=by
 have ho:own 92=none:=Vc
 rw[ho];unfold cz at hr |-;split at hr
 ·exact kg (cx:=pd Tryz.f92.ntmps Du) tok (iZ _ _) (mB _ _) Tryz.func92 rfl (fun h=>by rfl) (fun e es h=>by rw[U0];exact Zf (kE _) h) (fun h=>by rw[U1];rfl) (fun l off len sz ag h=>by rw[U2];exact Zf (kE _) h) hr hg hw hh hv
 ·exact absurd rfl hr
def PC:Prop:=∀call,dF Tryz.prog own call->∀(args:List AV)(h:Hp)(S:aD)(β:List cF)(w:World)(vs:List Value),Bt 26 .i64 (.agg [.int .i64 0,.int .i64 0,.sl [],.sl []]) call args h≠.fail->wi S β h w->Wf S w->dG S β w h->bF S β args vs->
 Calls Tryz.prog 82 vs.toArray w (fg none S β h w (Bt 26 .i64 (.agg [.int .i64 0,.int .i64 0,.sl [],.sl []]) call args h))
end Go.Proofs.YtbndmpiddinalacGreatDoor
namespace Go.Proofs.YtbndmpiddinalacGreatDoor
open Go Go.Av
def B4(p q:Addr)(w:World):CallsD Tryz.prog 143 #[.pointer (some p),.pointer (some q)] .returning w fun e u' w'=>e= .returned (.tuple #[])/\u'= .returning/\w'=w:=by
 refine callsD_of_wpS Tryz.func143 rfl fun c₀ cs hu=>?_;apply wpS_seq;apply wpS_region;simp[wpOpsS,go_sem,recoverD,hu,Tryz.ntmps143,Exit.thenS];refine wpS_of_wp ?_
 go_wp2
 cases c₀;simp_all[bodyPostS,results]
def GC(n:Int)(w:World):(Instr.typeAssert (.iface 26 (.int .i64 n)) 20 26 true).run Tryz.prog w= .ok (.tuple #[.int .i64 n,.bool true]) w:=Vc
def Nn(w:World):(Instr.build 30 #[]).run Tryz.prog w= .ok (.agg #[.int .i64 0,.int .i64 0,.slice none 0 0,.slice none 0 0]) w:=by
 obtain⟨v,h1,h2⟩:=zC (P:=Tryz.prog) (T:=T) (w:=w) (S:=fun _ _=>none) (β:=[]) (told:=true) (t:=30) (parts:=[]) (r:=.agg [.int .i64 0,.int .i64 0,.hn,.hn]) (qs:=#[]) tok rfl rfl;rw[h1];simp only[VR,bF]at h2
 grind
set_option maxHeartbeats 4000000 in
set_option maxRecDepth 100000 in
def E8(b c:Nat)(x0 x1 x2 x3 y0:Value)(n:Int)(w:World)(c0:w.cell? ⟨b,0,none⟩=some x0)(c1:w.cell? ⟨b,1,none⟩=some x1)(c2:w.cell? ⟨b,2,none⟩=some x2)(c3:w.cell? ⟨b,3,none⟩=some x3)(d0:w.cell? ⟨c,0,none⟩=some y0)(f0:w.frozen? ⟨b,0,none⟩=false)(f1:w.frozen? ⟨b,1,none⟩=false)(f2:w.frozen? ⟨b,2,none⟩=false)(f3:w.frozen? ⟨b,3,none⟩=false)(g0:w.frozen? ⟨c,0,none⟩=false)(hne:¬b=c)(hne':¬c=b):
  CallsD Tryz.prog 143 #[.pointer (some ⟨b,0,none⟩),.pointer (some ⟨c,0,none⟩)] (.panicking [{ v:=.iface 26 (.int .i64 n),recovered:=false }]) w fun e u' w'=>
   e= .returned (.tuple #[])/\u'= .panicking [{ v:=.iface 26 (.int .i64 n),recovered:=true }]/\w'=((((w.setCell ⟨b,0,none⟩ (.int .i64 0)).setCell ⟨b,1,none⟩ (.int .i64 0)).setCell ⟨b,2,none⟩ (.slice none 0 0)).setCell ⟨b,3,none⟩ (.slice none 0 0)).setCell ⟨c,0,none⟩ (.int .i64 n):=by
 refine callsD_of_wpS Tryz.func143 rfl fun c₀ cs hu=>?_;apply wpS_seq;apply wpS_region;simp[wpOpsS,go_sem,recoverD,hu,Tryz.ntmps143,Exit.thenS];refine wpS_of_wp ?_;have h1:=GC n;have h2:=Nn
 go_wp2
 simp_all[bodyPostS,results]
end Go.Proofs.YtbndmpiddinalacGreatDoor
namespace Go.Proofs.YtbndmpiddinalacGreatDoor
open Go Go.Av
set_option maxRecDepth 100000
def rF(w:World):World:=(w.alloc (Obj.cells #[Value.int IntKind.i64 0,Value.int IntKind.i64 0,Value.slice none 0 0,Value.slice none 0 0] 30)).alloc (Obj.cells #[Value.int IntKind.i64 0] 26)
def Dg(w w':World)(u0 u1 u2 u3 e:Value):World:=((((w'.setCell ⟨w.heap.size,0,none⟩ u0).setCell ⟨w.heap.size,1,none⟩ u1).setCell ⟨w.heap.size,2,none⟩ u2).setCell ⟨w.heap.size,3,none⟩ u3).setCell ⟨w.heap.size+1,0,none⟩ e
def Wl(w:World)(R:Ending->World->Prop):Ending->World->Prop:=fun e w'=>
 w'.heap[w.heap.size]? = (rF w).heap[w.heap.size]? /\w'.heap[w.heap.size+1]? = (rF w).heap[w.heap.size+1]? /\
 ((∃u0 u1 u2 u3:Value,u0.oneCell'=true/\u1.oneCell'=true/\u2.oneCell'=true/\u3.oneCell'=true/\e= .returned (.agg #[u0,u1,u2,u3])/\R (.returned (.tuple #[.agg #[u0,u1,u2,u3],.int .i64 0])) (Dg w w' u0 u1 u2 u3 (.int .i64 0)))\/
  ∃n,e= .panicked [{ v:=.iface 26 (.int .i64 n),recovered:=false }]/\R (.returned (.tuple #[.agg #[.int .i64 0,.int .i64 0,.slice none 0 0,.slice none 0 0],.int .i64 n])) (Dg w w' (.int .i64 0) (.int .i64 0) (.slice none 0 0) (.slice none 0 0) (.int .i64 n)))
set_option maxHeartbeats 4000000 in
def I3(g:FuncId)(x y:Array Value)(w:World)(R:Ending->World->Prop)(hfn:(Tryz.prog.funcs[g]?).any (fun fn=>fn.body.isSome&&!(fn.name== "runtime.NumGoroutine"))=true)(hc:Calls Tryz.prog g (x++y) (rF w) (Wl w R)):Calls Tryz.prog 82 #[.func (.func g) x y] w R:=by
 have hmf:∀(fn:Fn)(first cap:Array Value)(w:World),(Instr.makeFunc fn first cap).run Tryz.prog w= .ok (.func fn first cap) w:=fun _ _ _ _=>rfl
 go_enter_defers Tryz.func82,Tryz.ntmps82
 go_wp2
 rw[iE hfn,Oper.upon_enter];refine hc.mono fun e w' h=>?_;obtain⟨k0,k1,h⟩:=h;have r0:w'.heap[w.heap.size]? = some (.cells #[Value.int IntKind.i64 0,Value.int IntKind.i64 0,Value.slice none 0 0,Value.slice none 0 0] 30):=by rw[k0];exact (Go.Av.alloc_old _ _ Z8).trans (heap_alloc_new w _)
 have r1:w'.heap[w.heap.size+1]? = some (.cells #[Value.int IntKind.i64 0] 26):=by rw[k1];have:=heap_alloc_new (w.alloc (Obj.cells #[Value.int IntKind.i64 0,Value.int IntKind.i64 0,Value.slice none 0 0,Value.slice none 0 0] 30)) (Obj.cells #[Value.int IntKind.i64 0] 26);rwa [World.size_alloc]at this
 have c0:w'.cell? ⟨w.heap.size,0,none⟩=some (.int .i64 0):=by simp[World.cell?,r0]
 have c1:w'.cell? ⟨w.heap.size,1,none⟩=some (.int .i64 0):=by simp[World.cell?,r0]
 have c2:w'.cell? ⟨w.heap.size,2,none⟩=some (.slice none 0 0):=by simp[World.cell?,r0]
 have c3:w'.cell? ⟨w.heap.size,3,none⟩=some (.slice none 0 0):=by simp[World.cell?,r0]
 have d0:w'.cell? ⟨w.heap.size+1,0,none⟩=some (.int .i64 0):=by simp[World.cell?,r1]
 have f0:w'.frozen? ⟨w.heap.size,0,none⟩=false:=by simp[World.frozen?,r0]
 have f1:w'.frozen? ⟨w.heap.size,1,none⟩=false:=by simp[World.frozen?,r0]
 have f2:w'.frozen? ⟨w.heap.size,2,none⟩=false:=by simp[World.frozen?,r0]
 have f3:w'.frozen? ⟨w.heap.size,3,none⟩=false:=by simp[World.frozen?,r0]
 have g0:w'.frozen? ⟨w.heap.size+1,0,none⟩=false:=by simp[World.frozen?,r1]
 clear k0 k1 r0 r1 hc hmf;rcases h with⟨u0,u1,u2,u3,o0,o1,o2,o3,rfl,hR⟩|⟨n,rfl,hR⟩
 ·simp only;rename_i K1 hK1 K hK;apply hK;clear hK;have hK1':=hK1;clear hK1;have s0:∀a m (w:World),(store a u0 m).run Tryz.prog w=stored Tryz.prog w a u0 m:=fun a m w=>run_store _ w a u0 m o0;have s1:∀a m (w:World),(store a u1 m).run Tryz.prog w=stored Tryz.prog w a u1 m:=fun a m w=>run_store _ w a u1 m o1;have s2:∀a m (w:World),(store a u2 m).run Tryz.prog w=stored Tryz.prog w a u2 m:=fun a m w=>run_store _ w a u2 m o2;have s3:∀a m (w:World),(store a u3 m).run Tryz.prog w=stored Tryz.prog w a u3 m:=fun a m w=>run_store _ w a u3 m o3
  go_wp2
  change Leaves _ _ _ _ _ _ _;refine leaves_cons (f:=143) (args:=#[.pointer (some ⟨w.heap.size,0,none⟩),.pointer (some ⟨w.heap.size+1,0,none⟩)]) Z8 (by simp[go_sem]) ?_;refine (B4 ⟨w.heap.size,0,none⟩ ⟨w.heap.size+1,0,none⟩ _).mono ?_;rintro e u' w'' ⟨rfl,rfl,rfl⟩;simp only[Leaves,settle];refine⟨_,?_,hR⟩;simp[results,Tryz.results82,go_sem,Dg,World.cell?_setCell_same,c0,c1,c2,c3,d0]
 ·change Leaves _ _ _ _ _ _ _;refine leaves_cons (f:=143) (args:=#[.pointer (some ⟨w.heap.size,0,none⟩),.pointer (some ⟨w.heap.size+1,0,none⟩)]) Z8 (by simp[go_sem]) ?_;refine (E8 w.heap.size (w.heap.size+1) _ _ _ _ _ n w' c0 c1 c2 c3 d0 f0 f1 f2 f3 g0 Z5 Z5).mono ?_;rintro e u' w'' ⟨rfl,rfl,rfl⟩;simp only[Leaves,settle];refine⟨_,?_,hR⟩;simp[results,Tryz.results82,go_sem,Dg,World.cell?_setCell_same,c0,c1,c2,c3,d0]
end Go.Proofs.YtbndmpiddinalacGreatDoor
