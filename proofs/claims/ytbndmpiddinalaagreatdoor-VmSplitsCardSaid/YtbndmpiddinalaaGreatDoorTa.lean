/- What the functions compute, part 1. Conditions: bounds. -/
import Derived.Ground.NamesProg
import Derived.Shelf.Lays
import Derived.Shelf.Strings.Search3
import Derived.Shelf.Strings.Fields
import Derived.Test.YtbndmpiddinalaaGreatDoorProg
import Derived.Test.YtbndmpiddinalaaGreatDoorLc
import Derived.Tactics
import Derived.Tactics2
import Derived.Defers
import Derived.Recover
set_option linter.defProp false
set_option linter.unusedSimpArgs false
set_option linter.unusedVariables false
namespace Go
theorem ZR{P:Prop}(h:P:=by kernel_rfl):P:=h
end Go
namespace Go.Proofs
open Go.Shelf
def Xe:Go.Shelf.Ren:=⟨fun|144=>149|143=>178|219=>187|217=>193|225=>194|224=>195|267=>196|266=>198|314=>199|n=>n,fun|9=>9|4=>4|3=>3|5=>5|46=>266|146=>269|51=>250|n=>n,fun|1=>3|n=>n⟩
def Xg:Go.Proofs.Lays.n144 Tryz.prog Xe:={
 mixed:=ZR
 f143:=Tryz.func178.trans (XY some ZR)
 f144:=Tryz.func149.trans (XY some ZR)
 f217:=Tryz.func193.trans (XY some ZR)
 f219:=Tryz.func187.trans (XY some ZR)
 f224:=Tryz.func195.trans (XY some ZR)
 f225:=Tryz.func194.trans (XY some ZR)
 f266:=Tryz.func198.trans (XY some ZR)
 f267:=Tryz.func196.trans (XY some ZR)
 f314:=Tryz.func199.trans (XY some ZR)
 t3:=Tryz.underlying3
 a3:=Tryz.isAgg3
 z3:=Tryz.sizeOf3
 v3:=Tryz.zeroValue3
 t4:=Tryz.underlying4
 a4:=Tryz.isAgg4
 z4:=Tryz.sizeOf4
 v4:=Tryz.zeroValue4
 t5:=Tryz.underlying5
 a5:=Tryz.isAgg5
 z5:=Tryz.sizeOf5
 v5:=Tryz.zeroValue5
 t9:=Tryz.underlying9
 a9:=Tryz.isAgg9
 z9:=Tryz.sizeOf9
 v9:=Tryz.zeroValue9
 t46:=Tryz.underlying266
 a46:=Tryz.isAgg266
 z46:=Tryz.sizeOf266
 v46:=Tryz.zeroValue266
 t51:=Tryz.underlying250
 a51:=Tryz.isAgg250
 z51:=Tryz.sizeOf250
 v51:=Tryz.zeroValue250
 t146:=Tryz.underlying269
 a146:=Tryz.isAgg269
 z146:=Tryz.sizeOf269
 v146:=Tryz.zeroValue269
 g1:=by kernel_rfl }
def Xd:Go.Shelf.Ren:=⟨fun|157=>136|229=>174|199=>175|261=>186|311=>191|312=>192|n=>n,fun|9=>9|31=>31|3=>3|5=>5|4=>4|119=>239|0=>0|40=>241|152=>247|21=>21|154=>249|51=>250|141=>252|196=>257|193=>254|198=>260|49=>258|194=>255|201=>263|226=>267|46=>266|227=>268|n=>n,fun|0=>1|6=>2|n=>n⟩
def Xf:Go.Proofs.Lays.n157 Tryz.prog Xd:={
 mixed:=ZR
 f157:=Tryz.func136.trans (XY some ZR)
 f199:=Tryz.func175.trans (XY some ZR)
 f229:=Tryz.func174.trans (XY some ZR)
 f261:=Tryz.func186.trans (XY some ZR)
 f311:=Tryz.func191.trans (XY some ZR)
 f312:=Tryz.func192.trans (XY some ZR)
 t0:=Tryz.underlying0
 a0:=Tryz.isAgg0
 z0:=Tryz.sizeOf0
 v0:=Tryz.zeroValue0
 t3:=Tryz.underlying3
 a3:=Tryz.isAgg3
 z3:=Tryz.sizeOf3
 v3:=Tryz.zeroValue3
 t4:=Tryz.underlying4
 a4:=Tryz.isAgg4
 z4:=Tryz.sizeOf4
 v4:=Tryz.zeroValue4
 t5:=Tryz.underlying5
 a5:=Tryz.isAgg5
 z5:=Tryz.sizeOf5
 v5:=Tryz.zeroValue5
 t9:=Tryz.underlying9
 a9:=Tryz.isAgg9
 z9:=Tryz.sizeOf9
 v9:=Tryz.zeroValue9
 t21:=Tryz.underlying21
 a21:=Tryz.isAgg21
 z21:=Tryz.sizeOf21
 v21:=Tryz.zeroValue21
 t31:=Tryz.underlying31
 a31:=Tryz.isAgg31
 z31:=Tryz.sizeOf31
 v31:=Tryz.zeroValue31
 t40:=Tryz.underlying241
 a40:=Tryz.isAgg241
 z40:=Tryz.sizeOf241
 v40:=Tryz.zeroValue241
 t46:=Tryz.underlying266
 a46:=Tryz.isAgg266
 z46:=Tryz.sizeOf266
 v46:=Tryz.zeroValue266
 t49:=Tryz.underlying258
 a49:=Tryz.isAgg258
 z49:=Tryz.sizeOf258
 v49:=Tryz.zeroValue258
 t51:=Tryz.underlying250
 a51:=Tryz.isAgg250
 z51:=Tryz.sizeOf250
 v51:=Tryz.zeroValue250
 t119:=Tryz.underlying239
 a119:=Tryz.isAgg239
 z119:=Tryz.sizeOf239
 t141:=Tryz.underlying252
 a141:=Tryz.isAgg252
 z141:=Tryz.sizeOf252
 v141:=Tryz.zeroValue252
 t152:=Tryz.underlying247
 a152:=Tryz.isAgg247
 z152:=Tryz.sizeOf247
 v152:=Tryz.zeroValue247
 t154:=Tryz.underlying249
 a154:=Tryz.isAgg249
 z154:=Tryz.sizeOf249
 v154:=Tryz.zeroValue249
 t193:=Tryz.underlying254
 a193:=Tryz.isAgg254
 z193:=Tryz.sizeOf254
 v193:=Tryz.zeroValue254
 t194:=Tryz.underlying255
 a194:=Tryz.isAgg255
 z194:=Tryz.sizeOf255
 v194:=Tryz.zeroValue255
 t196:=Tryz.underlying257
 a196:=Tryz.isAgg257
 z196:=Tryz.sizeOf257
 v196:=Tryz.zeroValue257
 t198:=Tryz.underlying260
 a198:=Tryz.isAgg260
 z198:=Tryz.sizeOf260
 v198:=Tryz.zeroValue260
 t201:=Tryz.underlying263
 a201:=Tryz.isAgg263
 z201:=Tryz.sizeOf263
 v201:=Tryz.zeroValue263
 t226:=Tryz.underlying267
 a226:=Tryz.isAgg267
 z226:=Tryz.sizeOf267
 v226:=Tryz.zeroValue267
 t227:=Tryz.underlying268
 a227:=Tryz.isAgg268
 z227:=Tryz.sizeOf268
 v227:=Tryz.zeroValue268
 g0:=ZR
 g6:=by kernel_rfl }
end Go.Proofs
namespace Go.Proofs.YtbndmpiddinalaaGreatDoor
open Go Go.Av Go.Av.Ap
abbrev CC:=FuncId->List AV->M AV
abbrev RR:=List AV->M AV
def lb{α β:Type}{m:M α}{f:α->M β}{fs:Nat->α->M β}(hf:cJ f fs):ec (ar m f) fun n=>ar m (fs n):=ec.bnd (gf _) hf
abbrev vN(l:List Nat):List (Nat×Option Nat):=l.map fun x=>(x,none)
abbrev tF:TI:=TI.mk false 1 8 .func [] [.nilf] false
@[simp] def tE:Nat->List Nat->List (Nat×(Nat×Bool))
 |_,[]=>[]
 |i,x::l=>(i,(x,true))::tE (i+1) l
@[simp] abbrev tS(c s:Nat)(f:List Nat)(z:List AV)(b:Bool):TI:=TI.mk true c s .struct (tE 0 f) z b
noncomputable def tab:List (Nat×TI):=[
(0,(TI.mk false 1 0 .other [] [.any] false)),
(1,tF),
(2,(TI.mk false 1 8 (.int .i64) [] [.int .i64 0] false)),
(3,(TI.mk false 1 8 (.int .i64) [] [.int .i64 0] false)),
(4,(TI.mk false 1 1 .bool [] [.bool false] false)),
(5,(TI.mk false 1 1 (.int .u8) [] [.int .u8 0] false)),
(6,(TI.mk false 1 1 (.int .u8) [] [.int .u8 0] false)),
(7,(tS 4 24 [2,3,4,6] [.int .i64 0,.int .i64 0,.bool false,.int .u8 0] true)),
(8,(tS 4 24 [2,3,4,6] [.int .i64 0,.int .i64 0,.bool false,.int .u8 0] true)),
(9,(TI.mk false 1 16 .str [] [.str []] false)),
(10,(TI.mk false 1 16 .str [] [.str []] false)),
(11,(TI.mk false 1 16 .str [] [.str []] false)),
(12,(TI.mk false 1 8 (.int .u64) [] [.int .u64 0] false)),
(13,(tS 2 24 [9,12] [.str [],.int .u64 0] false)),
(14,(tS 2 24 [9,12] [.str [],.int .u64 0] false)),
(15,(TI.mk false 1 8 .ptr [] [.nilp] false)),
(16,(TI.mk false 1 8 .ptr [] [.nilp] false)),
(17,(TI.mk false 1 8 .ptr [] [.nilp] false)),
(18,(tS 1 8 [17] [.nilp] false)),
(19,(tS 1 8 [17] [.nilp] false)),
(20,(TI.mk false 1 16 .iface [] [.nili] false)),
(21,(TI.mk false 1 4 (.int .i32) [] [.int .i32 0] false)),
(22,(TI.mk false 1 24 (.slice 53) [] [.sl []] false)),
(23,(TI.mk false 1 24 (.slice 33) [] [.sl []] false)),
(24,(TI.mk false 1 24 (.slice 3) [] [.sl []] false)),
(25,tF),
(26,tF),
(27,tF),
(28,(TI.mk false 1 24 (.slice 58) [] [.sl []] false)),
(29,(TI.mk false 1 24 (.slice 62) [] [.sl []] false)),
(30,(TI.mk false 1 8 (.int .i64) [] [.int .i64 0] false)),
(31,(TI.mk false 1 24 (.slice 9) [] [.sl []] false)),
(32,(tS 4 64 [3,3,31,23] [.int .i64 0,.int .i64 0,.sl [],.sl []] true)),
(33,(tS 4 64 [3,3,31,23] [.int .i64 0,.int .i64 0,.sl [],.sl []] true)),
(34,(TI.mk false 1 24 (.slice 102) [] [.sl []] false)),
(35,(TI.mk false 1 24 (.slice 127) [] [.sl []] false)),
(36,(TI.mk true 8 144 .struct [(0,((30,true))),(1,((33,true))),(5,((34,true))),(6,((35,true))),(7,((28,true)))] [.int .i64 0,.int .i64 0,.int .i64 0,.sl [],.sl [],.sl [],.sl [],.sl []] true)),
(37,(TI.mk true 8 144 .struct [(0,((30,true))),(1,((33,true))),(5,((34,true))),(6,((35,true))),(7,((28,true)))] [.int .i64 0,.int .i64 0,.int .i64 0,.sl [],.sl [],.sl [],.sl [],.sl []] true)),
(38,(TI.mk true 13 248 .struct [(0,((22,true))),(1,((28,true))),(2,((29,true))),(3,((24,true))),(4,((37,true))),(12,((4,true)))] [.sl [],.sl [],.sl [],.sl [],.int .i64 0,.int .i64 0,.int .i64 0,.sl [],.sl [],.sl [],.sl [],.sl [],.bool false] true)),
(39,(TI.mk true 13 248 .struct [(0,((22,true))),(1,((28,true))),(2,((29,true))),(3,((24,true))),(4,((37,true))),(12,((4,true)))] [.sl [],.sl [],.sl [],.sl [],.int .i64 0,.int .i64 0,.int .i64 0,.sl [],.sl [],.sl [],.sl [],.sl [],.bool false] true)),
(40,(TI.mk false 1 0 .other [] [.any] false)),
(41,tF),
(42,tF),
(43,tF),
(44,tF),
(45,tF),
(46,tF),
(47,(TI.mk false 1 24 (.slice 158) [] [.sl []] false)),
(48,(TI.mk false 1 24 (.slice 108) [] [.sl []] false)),
(49,(TI.mk false 1 24 (.slice 110) [] [.sl []] false)),
(50,(tS 3 72 [47,48,48] [.sl [],.sl [],.sl []] true)),
(51,(tS 3 72 [47,48,48] [.sl [],.sl [],.sl []] true)),
(52,(tS 9 192 [9,31,47,48,49,4,51] [.str [],.sl [],.sl [],.sl [],.sl [],.bool false,.sl [],.sl [],.sl []] true)),
(53,(tS 9 192 [9,31,47,48,49,4,51] [.str [],.sl [],.sl [],.sl [],.sl [],.bool false,.sl [],.sl [],.sl []] true)),
(54,(TI.mk false 1 0 .other [] [.any] false)),
(55,tF),
(56,tF),
(57,(tS 2 40 [9,23] [.str [],.sl []] true)),
(58,(tS 2 40 [9,23] [.str [],.sl []] true)),
(59,tF),
(60,tF),
(61,(tS 5 88 [9,9,3,23,23] [.str [],.str [],.int .i64 0,.sl [],.sl []] true)),
(62,(tS 5 88 [9,9,3,23,23] [.str [],.str [],.int .i64 0,.sl [],.sl []] true)),
(63,tF),
(64,tF),
(65,tF),
(66,tF),
(67,(TI.mk false 1 8 .ptr [] [.nilp] false)),
(68,(TI.mk false 1 0 .other [] [.any] false)),
(69,tF),
(70,(TI.mk false 1 0 .other [] [.any] false)),
(71,tF),
(72,(TI.mk false 1 24 (.slice 138) [] [.sl []] false)),
(73,(tS 4 56 [9,3,3,72] [.str [],.int .i64 0,.int .i64 0,.sl []] true)),
(74,(tS 4 56 [9,3,3,72] [.str [],.int .i64 0,.int .i64 0,.sl []] true)),
(75,(TI.mk true 7 96 .struct [(0,((3,true))),(1,((4,true))),(2,((74,true))),(6,((24,true)))] [.int .i64 0,.bool false,.str [],.int .i64 0,.int .i64 0,.sl [],.sl []] true)),
(76,(TI.mk true 7 96 .struct [(0,((3,true))),(1,((4,true))),(2,((74,true))),(6,((24,true)))] [.int .i64 0,.bool false,.str [],.int .i64 0,.int .i64 0,.sl [],.sl []] true)),
(77,(TI.mk false 1 0 .other [] [.any] false)),
(78,(TI.mk false 1 8 (.map 9 3) [] [.nilm] false)),
(79,(TI.mk false 1 8 (.map 83 76) [] [.nilm] false)),
(80,(TI.mk true 15 264 .struct [(0,((39,true))),(13,((78,true))),(14,((79,true)))] [.sl [],.sl [],.sl [],.sl [],.int .i64 0,.int .i64 0,.int .i64 0,.sl [],.sl [],.sl [],.sl [],.sl [],.bool false,.nilm,.nilm] true)),
(81,(TI.mk true 15 264 .struct [(0,((39,true))),(13,((78,true))),(14,((79,true)))] [.sl [],.sl [],.sl [],.sl [],.int .i64 0,.int .i64 0,.int .i64 0,.sl [],.sl [],.sl [],.sl [],.sl [],.bool false,.nilm,.nilm] true)),
(82,(tS 2 32 [9,9] [.str [],.str []] true)),
(83,(tS 2 32 [9,9] [.str [],.str []] true)),
(84,tF),
(85,tF),
(86,tF),
(87,tF),
(88,tF),
(89,(TI.mk false 1 0 .other [] [.any] false)),
(90,tF),
(91,(TI.mk false 1 24 (.slice 145) [] [.sl []] false)),
(92,(TI.mk false 1 0 .other [] [.any] false)),
(93,tF),
(94,(TI.mk false 1 8 .ptr [] [.nilp] false)),
(95,(tS 2 32 [91,3] [.sl [],.int .i64 0] true)),
(96,(tS 2 32 [91,3] [.sl [],.int .i64 0] true)),
(97,(TI.mk false 1 0 .other [] [.any] false)),
(98,tF),
(99,tF),
(100,tF),
(101,(tS 3 24 [3,3,3] [.int .i64 0,.int .i64 0,.int .i64 0] true)),
(102,(tS 3 24 [3,3,3] [.int .i64 0,.int .i64 0,.int .i64 0] true)),
(103,tF),
(104,tF),
(105,(tS 2 32 [3,47] [.int .i64 0,.sl []] true)),
(106,(tS 2 32 [3,47] [.int .i64 0,.sl []] true)),
(107,(tS 6 96 [3,3,9,9,31,48] [.int .i64 0,.int .i64 0,.str [],.str [],.sl [],.sl []] true)),
(108,(tS 6 96 [3,3,9,9,31,48] [.int .i64 0,.int .i64 0,.str [],.str [],.sl [],.sl []] true)),
(109,(TI.mk true 12 184 .struct [(0,((9,true))),(1,((4,true))),(2,((47,true))),(3,((106,true))),(5,((3,true))),(6,((108,true)))] [.str [],.bool false,.sl [],.int .i64 0,.sl [],.int .i64 0,.int .i64 0,.int .i64 0,.str [],.str [],.sl [],.sl []] true)),
(110,(TI.mk true 12 184 .struct [(0,((9,true))),(1,((4,true))),(2,((47,true))),(3,((106,true))),(5,((3,true))),(6,((108,true)))] [.str [],.bool false,.sl [],.int .i64 0,.sl [],.int .i64 0,.int .i64 0,.int .i64 0,.str [],.str [],.sl [],.sl []] true)),
(111,tF),
(112,tF),
(113,tF),
(114,tF),
(115,(TI.mk false 1 0 .other [] [.any] false)),
(116,(TI.mk false 1 24 (.slice 74) [] [.sl []] false)),
(117,tF),
(118,(TI.mk false 1 0 .other [] [.any] false)),
(119,tF),
(120,tF),
(121,tF),
(122,(TI.mk false 1 0 .other [] [.any] false)),
(123,tF),
(124,tF),
(125,tF),
(126,(tS 3 56 [9,9,23] [.str [],.str [],.sl []] true)),
(127,(tS 3 56 [9,9,23] [.str [],.str [],.sl []] true)),
(128,tF),
(129,tF),
(130,tF),
(131,tF),
(132,tF),
(133,(TI.mk false 1 8 .ptr [] [.nilp] false)),
(134,tF),
(135,tF),
(136,tF),
(137,(tS 5 72 [3,3,9,9,31] [.int .i64 0,.int .i64 0,.str [],.str [],.sl []] true)),
(138,(tS 5 72 [3,3,9,9,31] [.int .i64 0,.int .i64 0,.str [],.str [],.sl []] true)),
(139,tF),
(140,tF),
(141,tF),
(142,tF),
(143,tF),
(144,(tS 4 40 [3,9,3,3] [.int .i64 0,.str [],.int .i64 0,.int .i64 0] true)),
(145,(tS 4 40 [3,9,3,3] [.int .i64 0,.str [],.int .i64 0,.int .i64 0] true)),
(146,(TI.mk false 1 0 .other [] [.any] false)),
(147,tF),
(148,(tS 2 16 [3,30] [.int .i64 0,.int .i64 0] true)),
(149,(tS 2 16 [3,30] [.int .i64 0,.int .i64 0] true)),
(150,(TI.mk false 1 0 .other [] [.any] false)),
(151,tF),
(152,tF),
(153,(TI.mk false 1 8 (.map 9 4) [] [.nilm] false)),
(154,tF),
(155,tF),
(156,tF),
(157,(tS 3 48 [9,106] [.str [],.int .i64 0,.sl []] true)),
(158,(tS 3 48 [9,106] [.str [],.int .i64 0,.sl []] true)),
(159,tF),
(160,tF),
(161,tF),
(162,tF),
(163,tF),
(164,tF),
(165,tF),
(166,tF),
(167,tF),
(168,(TI.mk false 1 8 .ptr [] [.nilp] false)),
(169,(tS 12 208 [22,24,3,3,37] [.sl [],.sl [],.int .i64 0,.int .i64 0,.int .i64 0,.int .i64 0,.int .i64 0,.sl [],.sl [],.sl [],.sl [],.sl []] true)),
(170,(tS 12 208 [22,24,3,3,37] [.sl [],.sl [],.int .i64 0,.int .i64 0,.int .i64 0,.int .i64 0,.int .i64 0,.sl [],.sl [],.sl [],.sl [],.sl []] true)),
(171,tF),
(172,(TI.mk false 1 0 .other [] [.any] false)),
(173,tF),
(174,tF),
(175,tF),
(176,tF),
(177,tF),
(178,tF),
(179,tF),
(180,tF),
(181,(TI.mk false 1 8 .ptr [] [.nilp] false)),
(182,(tS 3 56 [47,72,3] [.sl [],.sl [],.int .i64 0] true)),
(183,(tS 3 56 [47,72,3] [.sl [],.sl [],.int .i64 0] true)),
(184,tF),
(185,tF),
(186,tF),
(187,(TI.mk false 1 0 .other [] [.any] false)),
(188,tF),
(189,tF),
(190,tF),
(191,tF),
(192,(tS 3 56 [3,31,23] [.int .i64 0,.sl [],.sl []] true)),
(193,(tS 3 56 [3,31,23] [.int .i64 0,.sl [],.sl []] true)),
(194,tF),
(195,tF),
(196,tF),
(197,tF),
(198,tF),
(199,tF),
(200,tF),
(201,tF),
(202,tF),
(203,tF),
(204,tF),
(205,tF),
(206,tF),
(207,tF),
(208,tF),
(209,(TI.mk true 14 224 (.array 14 9) [] (List.replicate 14 (.str [])) false)),
(210,tF),
(211,tF),
(212,tF),
(213,tF),
(214,tF),
(215,tF),
(216,tF),
(217,tF),
(218,tF),
(219,tF),
(220,tF),
(221,tF),
(222,tF),
(223,tF),
(224,tF),
(225,tF),
(226,tF),
(227,tF),
(228,tF),
(229,tF),
(230,tF),
(231,tF),
(232,tF),
(233,(TI.mk false 1 0 .other [] [.any] false)),
(234,tF),
(235,(tS 3 32 [9,3,3] [.str [],.int .i64 0,.int .i64 0] true)),
(236,(tS 3 32 [9,3,3] [.str [],.int .i64 0,.int .i64 0] true)),
(237,(TI.mk false 1 24 (.slice 236) [] [.sl []] false)),
(238,tF),
(239,(TI.mk true 256 256 (.array 256 5) [] (List.replicate 256 (.int .u8 0)) false)),
(240,tF),
(241,tF),
(242,tF),
(243,tF),
(244,tF),
(245,tF),
(246,tF),
(247,(TI.mk false 1 24 (.slice 249) [] [.sl []] false)),
(248,(tS 2 16 [3,3] [.int .i64 0,.int .i64 0] true)),
(249,(tS 2 16 [3,3] [.int .i64 0,.int .i64 0] true)),
(250,(TI.mk false 1 4 (.int .u32) [] [.int .u32 0] false)),
(251,tF),
(252,(TI.mk false 1 8 .ptr [] [.nilp] false)),
(253,tF),
(254,(TI.mk false 1 24 (.slice 260) [] [.sl []] false)),
(255,(TI.mk false 1 24 (.slice 263) [] [.sl []] false)),
(256,(tS 3 56 [254,255,3] [.sl [],.sl [],.int .i64 0] true)),
(257,(tS 3 56 [254,255,3] [.sl [],.sl [],.int .i64 0] true)),
(258,(TI.mk false 1 2 (.int .u16) [] [.int .u16 0] false)),
(259,(tS 3 6 [258,258,258] [.int .u16 0,.int .u16 0,.int .u16 0] true)),
(260,(tS 3 6 [258,258,258] [.int .u16 0,.int .u16 0,.int .u16 0] true)),
(261,tF),
(262,(tS 3 12 [250,250,250] [.int .u32 0,.int .u32 0,.int .u32 0] true)),
(263,(tS 3 12 [250,250,250] [.int .u32 0,.int .u32 0,.int .u32 0] true)),
(264,tF),
(265,tF),
(266,(TI.mk false 1 8 (.int .u64) [] [.int .u64 0] false)),
(267,(TI.mk false 1 8 .ptr [] [.nilp] false)),
(268,(TI.mk false 1 8 .ptr [] [.nilp] false)),
(269,(TI.mk false 1 0 .other [] [.any] false)),
(270,tF),
(271,(tS 4 40 [17,17,17,9] [.nilp,.nilp,.nilp,.str []] false)),
(272,(tS 4 40 [17,17,17,9] [.nilp,.nilp,.nilp,.str []] false)),
(273,(TI.mk true 0 0 (.array 0 16) [] [] false)),
(274,(TI.mk true 0 0 .struct [(0,((273,false)))] [] false)),
(275,(TI.mk true 0 0 .struct [(0,((273,false)))] [] false)),
(276,tF),
(277,(TI.mk false 1 1 (.int .u8) [] [.int .u8 0] false)),
(278,(TI.mk false 1 1 (.int .u8) [] [.int .u8 0] false)),
(279,tF),
(280,(TI.mk false 1 8 .ptr [] [.nilp] false)),
(281,(TI.mk false 1 4 (.int .i32) [] [.int .i32 0] false)),
(282,(TI.mk false 1 4 (.int .i32) [] [.int .i32 0] false)),
(283,(tS 11 48 [12,12,250,277,5,5,278,279,280,281,282] [.int .u64 0,.int .u64 0,.int .u32 0,.int .u8 0,.int .u8 0,.int .u8 0,.int .u8 0,.nilf,.nilp,.int .i32 0,.int .i32 0] false)),
(284,(tS 11 48 [12,12,250,277,5,5,278,279,280,281,282] [.int .u64 0,.int .u64 0,.int .u32 0,.int .u8 0,.int .u8 0,.int .u8 0,.int .u8 0,.nilf,.nilp,.int .i32 0,.int .i32 0] false)),
(285,(TI.mk false 1 8 .other [] [.nilp] false))]
def Dz:List (Nat×TI)->Nat->Option TI
 |[],_=>none
 |(k,x):: r,t=>bif Nat.beq k t then some x else Dz r t
noncomputable def T:TT:=Dz tab
def Ub:Ann:={kinds:=[(16,.S),(18,.S),(20,.S),(22,.S),(24,.S),(26,.S)],nl:=[72,77,83,89,96,100,105,115,116,124,125,131,136,141,152,153,157,158,167,168],lw:=[16,18,20,22,24,26]}
def Uc:Ann:={kinds:=[(1,.S),(6,.S),(8,.S),(10,.S),(12,.S),(14,.S),(16,.S)],no:=[26,28,32,113,138,144],nl:=[25,37,42,47,62,67,72,75,106,110,120,124,127,132,135,143,149,152,155,163,167],lw:=[1,6,8,10,12,14,16]}
def Ud:Ann:={nl:=[17],loops:=[(0,{vals:=vN [0,3]})]}
def Ue:Ann:={nl:=[20,28],loops:=[(0,{vals:=vN [0,1,5]})]}
def Uf:Ann:={kinds:=[(15,.S)],hl:=[39,76],nl:=[39,52,69,76],lw:=[10,15]}
def Ug:Ann:={kinds:=[(7,.S),(8,.S)],nl:=[10,13,18,21,27,29,34,36,42,44,50,56,59,61,64,69,75,78,80,83,85,87,91,93,98,100,105,107,113,115,120,122],lw:=[7,8],loops:=[(0,{vals:=vN [2,3,5]}),(2,{vals:=vN [2,3,6]})]}
def Uh:Ann:={hl:=[31,39,44,48],nl:=[9,31,39,44,48],lw:=[4],joins:=[(1000000,{vals:=vN [6,5000,5001,5002,5003,5004,5005,5006,5007,5008,5009,5010,5011,5012],locs:=[(4,5000,0)],lbs:=[(5000,13)]})],loops:=[(0,{vals:=vN [6,24,25,5000,5001,5002,5003,5004,5005,5006,5007,5008,5009,5010,5011,5012],locs:=[(4,5000,0)],lbs:=[(5000,13)]})]}
def Pa:Ann:={nl:=[6]}
def Pb:Ann:={hl:=[18,22,28],nl:=[7,18,22,28],lw:=[2]}
def Pf:Ann:={iso:=false,kinds:=[(8,.H),(9,.S),(25,.H)],hl:=[37],hb:=[8,24],nl:=[27,37],lw:=[2,9]}
def Ph:Ann:={lw:=[2]}
def Pi:Ann:={nl:=[7,9,13,16,22,24,30,36,39,41,44,47,49,53,55],loops:=[(0,{vals:=vN [2,3,5]})]}
def Pj:Ann:={lw:=[12]}
def Pk:Ann:={nl:=[20,24],loops:=[(0,{vals:=vN [0,1,5]})]}
def Pl:Ann:={nl:=[20,24],loops:=[(0,{vals:=vN [0,1,5]})]}
def Pm:Ann:={kinds:=[(4,.S)],nl:=[8,18,21,23,28,34,40,46,56,59,63,68,74,80,85,91,97,103],lw:=[4],loops:=[(0,{vals:=vN [1,3]}),(2,{vals:=vN [1,5]})]}
def Pn:Ann:={nl:=[9,21,24],loops:=[(0,{vals:=vN [1,2,5,6]})]}
def Po:Ann:={iso:=false,kinds:=[(6,.S),(10,.S),(12,.S),(14,.S),(23,.H)],hl:=[35,45,85],hb:=[22],nl:=[30,35,37,45,47,55,56,66,67,74,76,85,87,89,93,97,98],lw:=[6,10,12,14],loops:=[(0,{vals:=vN [0,4,24,25,26]}),(2,{vals:=vN [0,4,50,51,52]}),(4,{vals:=vN [0,4,60,61,62]}),(6,{vals:=vN [0,4,11,12,60,61,62,68,69,70]})]}
def Pp:Ann:={kinds:=[(7,.S),(10,.S),(11,.S)],hb:=[8,26],no:=[52,58],nl:=[23,25,28,31,35,40,42,51],lw:=[7,8,10,11,54],loops:=[(0,{vals:=[(5,some 2),(18,none),(19,none),(20,none)]}),(2,{vals:=[(5,some 2),(18,none),(19,none),(20,none),(35,none),(36,none),(37,none),(9000,none),(9001,some 4)],locs:=[(8,9000,0)],lbs:=[(9000,2)]})],nils:=[(8,[1])]}
def Pq:Ann:={}
def Dc:Ann:={}
def Pr:Ann:={iso:=false,hl:=[16,45],ha:=[25,39,53],hb:=[51],no:=[24,38,52],nl:=[9,16,20,34,45,49],joins:=[(9,{vals:=vN [0,1,3,6]})],loops:=[(0,{vals:=vN [0,1,3,6]})]}
def Dd:Ann:={iso:=false,hl:=[7],ha:=[5,7],hb:=[2]}
def Ps:Ann:={nl:=[21,26,33,38],loops:=[(0,{vals:=vN [0,1,5]})]}
def Pt:Ann:={nl:=[8,11,16,22,25,27,30,35,38,43,46,52,55,59,61,65,67,72,74,79,81,86,88],loops:=[(0,{vals:=vN [2,3,5]})]}
def Pu:Ann:={iso:=false,kinds:=[(6,.S),(9,.S)],nl:=[13,21,23,29,32,36,41,46,49,54,60,62,68,74,82,88,92,96,101,107],lw:=[6,9],joins:=[(94,{vals:=vN [1,4,9,10,82,83,84]})],loops:=[(0,{vals:=vN [1,4,82,83,84]})]}
def Pv:Ann:={iso:=false,kinds:=[(3,.S)],hl:=[10,14,18,26,32,43,47,51],nl:=[10,14,18,26,28,32,37,43,47,51,55],lw:=[3]}
def Pw:Ann:={no:=[25,42],lw:=[7,39],loops:=[(0,{vals:=[(0,none),(5,some 4),(6,none)]})]}
def Px:Ann:={iso:=false,nl:=[2]}
def Py:Ann:={iso:=false,hl:=[28,52],hb:=[3],no:=[37,72,79,98],nl:=[28,52],lw:=[2,7,12,39,62,74,81,100,103,107,116,124],joins:=[(102,{vals:=[(0,none),(3000,none),(3001,none),(3002,none),(3003,none),(3004,none),(3005,none),(3006,none),(3007,none),(3008,none),(4000,none),(4001,some 1),(4002,some 3),(4003,some 6),(4004,some 12),(4005,none),(4006,none),(4007,none),(4008,none)],locs:=[(2,3000,0),(3,4000,0)],lbs:=[(3000,9),(4000,9)]})],loops:=[(0,{vals:=[(0,none),(4,none),(5,none),(6,none),(3000,none),(3001,none),(3002,none),(3003,none),(3004,none),(3005,none),(3006,none),(3007,none),(3008,none),(4000,none),(4001,some 1),(4002,some 3),(4003,some 6),(4004,some 12),(4005,none),(4006,none),(4007,none),(4008,none)],locs:=[(2,3000,0),(3,4000,0)],lbs:=[(3000,9),(4000,9)]}),(2,{vals:=[(0,none),(5,none),(6,none),(3000,none),(3001,none),(3002,none),(3003,none),(3004,none),(3005,none),(3006,none),(3007,none),(3008,none),(4000,none),(4001,some 1),(4002,some 3),(4003,some 6),(4004,some 12),(4005,none),(4006,none),(4007,none),(4008,none)],locs:=[(2,3000,0),(3,4000,0)],lbs:=[(3000,9),(4000,9)]}),(4,{vals:=[(0,none),(6,none),(3000,none),(3001,none),(3002,none),(3003,none),(3004,none),(3005,none),(3006,none),(3007,none),(3008,none),(4000,none),(4001,some 1),(4002,some 3),(4003,some 6),(4004,some 12),(4005,none),(4006,none),(4007,none),(4008,none)],locs:=[(2,3000,0),(3,4000,0)],lbs:=[(3000,9),(4000,9)]})],nils:=[(3,[1,2,3,4])]}
def Pz:Ann:={nl:=[6,8,12,14,19,21,26,28]}
def PC:Ann:={nl:=[21,26,33,38,46,51],loops:=[(0,{vals:=vN [0,1,5]})]}
def PD:Ann:={kinds:=[(16,.S),(17,.S),(18,.S),(21,.S),(45,.H)],hl:=[81,110],ha:=[89],hb:=[44],no:=[88],nl:=[46,50,51,59,62,66,75,76,77,81,83,85,95,96,107,110],lw:=[14,16,17,18,21],loops:=[(0,{vals:=vN [11,16,17,18,70,71,72,15000,15001,15002,15003,15004,15005,15006,15007],locs:=[(14,15000,0)],lbs:=[(15000,8)]})]}
def PE:Ann:={nl:=[18,26],loops:=[(0,{vals:=vN [0,3]})]}
def PF:Ann:={nl:=[3,7]}
def PG:Ann:={nl:=[3,7]}
def PH:Ann:={nl:=[17],loops:=[(0,{vals:=vN [0,3]})]}
def PI:Ann:={kinds:=[(8,.S)],nl:=[13,18,32,37,40,44,50,56,62,68,74,77,82,88,94,100,102,109,112,115,121,126,133],lw:=[8],joins:=[(116,{vals:=vN [1,9,10]})],loops:=[(0,{vals:=vN [1,3,13,14,15]}),(2,{vals:=vN [1,6,32,33,34]})]}
def PK:Ann:={kinds:=[(5,.S),(9,.S),(26,.H)],hl:=[57,61],hb:=[25],no:=[37,63],nl:=[10,14,19,21,23,28,33,36,42,50,52,57,61],lw:=[5,9],loops:=[(0,{vals:=[(1,none),(3,some 4),(14,none),(15,none),(16,none)]}),(2,{vals:=[(1,none),(3,some 4),(5,none),(6,none),(7,some 1),(14,none),(15,none),(16,none),(28,none),(29,none),(30,none)]})]}
def PL:Ann:={kinds:=[(6,.S)],hl:=[83,98,120,127,141,145],ha:=[43],no:=[135],nl:=[14,19,24,29,31,36,41,45,51,52,53,68,73,76,83,88,92,98,102,109,113,120,127,141,145],lw:=[6],so:=[70],loops:=[(0,{vals:=vN [1,4,45,46,47]}),(2,{vals:=[(1,none),(4,none),(7,some 1)]}),(4,{vals:=[(1,none),(4,none),(7,some 1),(8,none),(9,none),(10,none),(104,none),(105,none),(106,none)]})]}
def De:Ann:={}
def PM:Ann:={kinds:=[(4,.S)],nl:=[14],lw:=[4],loops:=[(0,{vals:=vN [0,8,9,10]})]}
def PN:Ann:={kinds:=[(8,.S),(20,.H)],hb:=[19],nl:=[9,11,15],lw:=[6,8]}
def PO:Ann:={}
def PP:Ann:={nl:=[3]}
def PQ:Ann:={nl:=[3]}
def PS:Ann:={lw:=[2]}
def PT:Ann:={nl:=[6,8,12,14,19,21,26,28,33,35,40,42]}
def PU:Ann:={nl:=[21,26,33,38],loops:=[(0,{vals:=vN [0,1,5]})]}
def PV:Ann:={nl:=[20,24],loops:=[(0,{vals:=vN [0,1,5]})]}
def PW:Ann:={nl:=[20,24],loops:=[(0,{vals:=vN [0,1,5]})]}
def PX:Ann:={kinds:=[(6,.S)],nl:=[18,20,25,29,34],lw:=[6],loops:=[(0,{vals:=vN [0,12,13,14]})]}
def PY:Ann:={iso:=false,kinds:=[(7,.S),(10,.S)],hl:=[16],nl:=[16,18,20,29,34,37,43,46,51,53,55,62,67,71,79,81,84,86,90,92,97,102,106],lw:=[7,10],joins:=[(88,{vals:=vN [2,10,11]})]}
def PZ:Ann:={iso:=false,kinds:=[(1,.L)],hl:=[36,41],nl:=[36,41],lw:=[2,8,12,16,20,61,63,65],loops:=[(0,{vals:=vN [23,24,2000,2001,2002,2003,2004,2005,2006,2007,2008,2009,2010,2011,2012,3000,3001,3002,3003,3004,3005,3006,3007,3008,3009,3010,3011,3012],locs:=[(1,2000,0),(2,3000,0)],lbs:=[(2000,13),(3000,13)]})],ords:=[(9,[0,1,2,3,4,5,7,8,9,10,6,11,12,13,14,15,16,17]),(11,[0,1,2,4,5,6,8,9,10,3,12,13,7,11,14,15,16,17,18,19,20])]}
def P0:Ann:={iso:=false,hl:=[7,12],nl:=[7,12]}
def P1:Ann:={iso:=false,hl:=[8,19,24],nl:=[8,12,19,24,33],ords:=[(4,[0,2,1,3])]}
def P2:Ann:={iso:=false,kinds:=[(7,.S),(8,.S)],hl:=[36,40,47,53,71,95],fz:=[95],nl:=[10,13,19,26,36,38,40,47,49,53,63,71,73,78,82,88,92,97,102,106,112,119,127],lw:=[7,8],lm:=[(47,5,3)],cm:=[(51,5,3)],joins:=[(114,{vals:=vN [0,1,5,10,114]}),(121,{vals:=vN [0,1,5,121]})],ords:=[(23,[0,1,3,4,5,6,10,2,7,8,9,11])]}
def P3:Ann:={iso:=false,hl:=[23],nl:=[18,23]}
def P4:Ann:={loops:=[(0,{vals:=vN [0,1,5]})]}
def P5:Ann:={}
def P6:Ann:={lw:=[2],loops:=[(1,{vals:=vN [0,43,44,3000,3001,3002,3003],locs:=[(2,3000,0)],lbs:=[(3000,4)]})]}
def P7:Ann:={iso:=false}
def P8:Ann:={iso:=false,hl:=[10,17,21],nl:=[10,17,21,25]}
def P9:Ann:={iso:=false}
def Qa:Ann:={iso:=false}
def Qb:Ann:={iso:=false}
def Qc:Ann:={iso:=false,hb:=[3,16],no:=[55],nl:=[40],lw:=[2,3,5,51,57],joins:=[(21,{vals:=[(0,none),(3000,none),(3001,none),(4000,none),(4001,some 3)],locs:=[(2,3000,0),(3,4000,0)],lbs:=[(3000,2),(4000,2)]}),(31,{vals:=[(0,none),(4,none),(3000,none),(3001,none),(4000,none),(4001,some 3)],locs:=[(2,3000,0),(3,4000,0)],lbs:=[(3000,2),(4000,2)]})],loops:=[(1,{vals:=[(0,none),(3000,none),(3001,none),(4000,none),(4001,some 3)],locs:=[(2,3000,0),(3,4000,0)],lbs:=[(3000,2),(4000,2)]})],nils:=[(3,[1])]}
def Qd:Ann:={iso:=false,hl:=[17],nl:=[17]}
def Qe:Ann:={kinds:=[(5,.S)],nl:=[7,12,15],lw:=[5],loops:=[(0,{vals:=vN [3,7,8,9]})]}
def Qf:Ann:={iso:=false,kinds:=[(5,.S)],nl:=[9,14],lw:=[4,5]}
def Qg:Ann:={iso:=false,nl:=[38],lw:=[4,5,17,20,23,47,59],joins:=[(29,{vals:=vN [0,6,5000,5001,5002,5003,5004,5005,5006,5007,5008,5009,5010,5011,6000,6001,6002,6003,6004,6005,6006,6007,6008,6009,6010,6011],locs:=[(4,5000,0),(5,6000,0)],lbs:=[(5000,12),(6000,12)]})],loops:=[(0,{vals:=vN [0,33,34,35,5000,5001,5002,5003,5004,5005,5006,5007,5008,5009,5010,5011,6000,6001,6002,6003,6004,6005,6006,6007,6008,6009,6010,6011],locs:=[(4,5000,0),(5,6000,0)],lbs:=[(5000,12),(6000,12)]})]}
def Qh:Ann:={iso:=false,hl:=[12],nl:=[12]}
def Qi:Ann:={iso:=false,no:=[30],lw:=[7,27],joins:=[(14,{vals:=[(0,none),(1,none),(5,some 3),(6,none)]})],loops:=[(0,{vals:=[(0,none),(1,none),(5,some 3),(6,none)]})]}
def Qj:Ann:={iso:=false,no:=[20,27],loops:=[(0,{vals:=[(0,none),(2,none),(7,some 6),(14,none),(15,none)]})]}
def Qk:Ann:={iso:=false}
def Ql:Ann:={iso:=false,hl:=[6,10],nl:=[6,10,12],lw:=[2]}
def Qm:Ann:={}
def Qn:Ann:={iso:=false,hl:=[8],nl:=[8]}
def Qo:Ann:={iso:=false,hl:=[16],nl:=[16,20,30],lw:=[6]}
def Qp:Ann:={nl:=[3]}
def Qq:Ann:={iso:=false,nl:=[5,6,7,8],lw:=[4]}
def Qr:Ann:={iso:=false,kinds:=[(11,.S),(12,.S)],hl:=[16,26,30,67,79],ha:=[41],no:=[40],nl:=[16,20,26,30,34,36,48,54,57,61,67,74,79,83],lw:=[8,9,11,12],joins:=[(20,{vals:=vN [0,1,3,6,9000,9001,9002,9003],locs:=[(8,9000,0)],lbs:=[(9000,4)]})],loops:=[(0,{vals:=vN [0,3,6,48,49,50,9000,9001,9002,9003,10000,10001,10002],locs:=[(8,9000,0),(9,10000,0)],lbs:=[(9000,4),(10000,3)]})]}
def Qs:Ann:={nl:=[9,21,25],loops:=[(0,{vals:=vN [1,2,5,6]})]}
def Qt:Ann:={nl:=[6,12,16,21,25],loops:=[(0,{vals:=vN [1,3]})]}
def Qu:Ann:={nl:=[9,21,24],loops:=[(0,{vals:=vN [1,2,5,6]})]}
def Qv:Ann:={nl:=[7,17,20,25,31,34,38,43,49],loops:=[(0,{vals:=vN [1,3]}),(2,{vals:=vN [1,4]})]}
def Qw:Ann:={}
def Qx:Ann:={kinds:=[(7,.S)],nl:=[14,17,21,27,33],lw:=[7],loops:=[(0,{vals:=vN [0,1,5,9,10,11]})]}
def Qy:Ann:={nl:=[3]}
def Qz:Ann:={nl:=[3]}
def QA:Ann:={kinds:=[(6,.S)],nl:=[12,13],lw:=[6],loops:=[(0,{vals:=vN [0,1,7,8,9]})]}
def QB:Ann:={iso:=false,hl:=[125],no:=[141],nl:=[8,11,16,23,30,38,47,55,57,62,64,73,75,82,84,91,93,98,100,102,104,111,113,125,134,136,140],ords:=[(15,[0,1,2,3,4,5,7,6,8]),(18,[0,1,3,4,5,6,7,2,8]),(26,[0,1,2,3,4,5,7,8,9,6,10,11])]}
def QC:Ann:={iso:=false,hl:=[9,18],ha:=[12],no:=[11],nl:=[9,10,18]}
def QD:Ann:={nl:=[11,13,15,17,19,38,49],joins:=[(30,{vals:=vN [2,5,6,7,8,9,19,30]}),(41,{vals:=vN [2,5,6,7,8,9,19,41]}),(53,{vals:=vN [5,6,7,8,9,19,53]}),(106,{vals:=vN [5,6,7,8,9,106]}),(1000000,{vals:=vN [5,6,7,8,9]})]}
def Lg:Ann:={nl:=[5,25,30],joins:=[(6,{vals:=vN [1,5,6]}),(11,{vals:=vN [1,5,11]}),(17,{vals:=vN [1,5,17]})]}
def Lh:Ann:={kinds:=[(5,.S)],no:=[19,26,29],nl:=[7,10,12,18,25],lw:=[5]}
def Li:Ann:={}
def Lj:Ann:={nl:=[5,7]}
def Lk:Ann:={nl:=[3]}
def Ll:Ann:={iso:=false,nl:=[5,6,7,9],lw:=[4]}
def Lm:Ann:={iso:=false,kinds:=[(9,.S)],hl:=[14,20],nl:=[14,20,25,35,42,46,51,55,60,66,74,77,79,82,85,94,96,98,100,103,105,107,114,116,118,121,125,129,131,133,139,141,143,150,152,154,157,159,161,164,166,168,173,175,177,179,181,185,187,192,193,198,200,202,205,207,210,218,221,225,226,229,230],lw:=[6,9],joins:=[(87,{vals:=vN [0,4,5,42,87,7000,7001,7002,7003],locs:=[(6,7000,0)],lbs:=[(7000,4)]}),(110,{vals:=vN [0,4,5,42,110,7000,7001,7002,7003],locs:=[(6,7000,0)],lbs:=[(7000,4)]}),(1000000,{vals:=vN [0,4,5,7000,7001,7002,7003],locs:=[(6,7000,0)],lbs:=[(7000,4)]})],loops:=[(1,{vals:=vN [0,4,5,8,7000,7001,7002,7003],locs:=[(6,7000,0)],lbs:=[(7000,4)]})],ords:=[(23,[0,1,2,3,4,5,6,7,9,10,11,12,13,14,8,15,16,17]),(26,[0,1,2,3,4,5,7,8,9,6,10]),(36,[0,1,2,3,4,5,6,7,8,9,12,13,14,15,10,11,16,17]),(40,[0,1,2,3,4,5,7,6,8])]}
def Lo:Ann:={nl:=[15],loops:=[(0,{vals:=vN [0,1,7,8]})]}
def Lp:Ann:={nl:=[5,8,12,16,21,27,31,36,41,45,50,53,59,65,70]}
def Lq:Ann:={nl:=[6,8,12,14]}
def Lr:Ann:={nl:=[6,8,12,14,19,21,26,28,33,35,40,42]}
def Ls:Ann:={iso:=false,kinds:=[(5,.S)],hl:=[11],ha:=[20],hb:=[3],no:=[19],nl:=[11,14,16],lw:=[5],loops:=[(0,{vals:=vN [3,6,7,8]})]}
def xR:Ann:={iso:=false,hl:=[7],ha:=[5,7],hb:=[2]}
def xS:Ann:={iso:=false,hl:=[7],ha:=[5,7],hb:=[2]}
def xT:Ann:={iso:=false,hl:=[7],ha:=[5,7],hb:=[2]}
def Lt:Ann:={iso:=false,hl:=[7],ha:=[11],no:=[10],nl:=[7,8],sl1:=[12],sl0:=[14]}
def Lu:Ann:={lw:=[2]}
def Lv:Ann:={iso:=false,hl:=[10,17,25],hb:=[27],nl:=[10,17,25]}
def Lw:Ann:={iso:=false,hl:=[8,12],nl:=[8,12]}
def xU:Ann:={}
def Lx:Ann:={kinds:=[(5,.S)],nl:=[7,12,14],lw:=[5],loops:=[(0,{vals:=vN [3,7,8,9]})]}
def Ly:Ann:={iso:=false,kinds:=[(8,.S)],hl:=[17,22,55],nl:=[11,17,22,25,35,39,46,48,55,60,63],lw:=[8],joins:=[(13,{vals:=vN [0,1,5,7]})]}
def Lz:Ann:={iso:=false,hl:=[12,16,20,24,31,48],nl:=[12,16,20,24,27,31,35,41,46,48]}
def LA:Ann:={iso:=false,kinds:=[(7,.S)],hl:=[13,56,63,71,82],ha:=[90],no:=[89],nl:=[13,15,17,21,25,29,33,37,41,51,56,63,65,71,82,84,86,103,111,114],lw:=[7],joins:=[(19,{vals:=vN [0,1,5,7,8,19]}),(58,{vals:=vN [0,1,5,7,9]})]}
def LC:Ann:={iso:=false,kinds:=[(6,.S),(7,.S)],hl:=[13,16],nl:=[13,16,18,22,32,37,46,48,56,58,66,68,76,78,86,88],lw:=[6,7]}
def LD:Ann:={}
def LF:Ann:={}
def LG:Ann:={}
def LH:Ann:={}
def LI:Ann:={loops:=[(0,{vals:=vN [0,4,30,31]})]}
def LJ:Ann:={}
def LK:Ann:={iso:=false}
def LL:Ann:={iso:=false}
def LM:Ann:={iso:=false,nl:=[8]}
def LN:Ann:={iso:=false,kinds:=[(9,.S)],hl:=[67],no:=[25,79],nl:=[32,35,37,67],lw:=[4,5,7,9],loops:=[(0,{vals:=vN [0,1,6,5000,5001,5002,5003,5004,5005,6000,6001,6002,6003,6004,6005],locs:=[(4,5000,0),(5,6000,0)],lbs:=[(5000,6),(6000,6)]}),(2,{vals:=vN [0,1,6,5000,5001,5002,5003,5004,5005,6000,6001,6002,6003,6004,6005],locs:=[(4,5000,0),(5,6000,0)],lbs:=[(5000,6),(6000,6)]}),(4,{vals:=vN [0,1,6,27,28,29,5000,5001,5002,5003,5004,5005,6000,6001,6002,6003,6004,6005,8000,8001,8002],locs:=[(4,5000,0),(5,6000,0),(7,8000,0)],lbs:=[(5000,6),(6000,6),(8000,3)]})],ords:=[(3,[0,2,3,1,4,5])]}
def LO:Ann:={kinds:=[(5,.S)],nl:=[7,12,14],lw:=[5],loops:=[(0,{vals:=vN [3,7,8,9]})]}
def LP:Ann:={}
def LQ:Ann:={iso:=false}
def LR:Ann:={kinds:=[(8,.S),(9,.S)],nl:=[21,25,27,28],lw:=[8,9],loops:=[(0,{vals:=vN [1,2,15,16,17]})]}
def LS:Ann:={nl:=[6,8,12,15,21]}
def LU:Ann:={nl:=[3]}
def LV:Ann:={nl:=[15],loops:=[(0,{vals:=vN [0,1,7,8]})]}
def LW:Ann:={nl:=[5,6]}
def LX:Ann:={nl:=[15],loops:=[(0,{vals:=vN [0,1,7,8]})]}
def LY:Ann:={nl:=[5,6]}
def LZ:Ann:={}
def L4:Ann:={no:=[13,19],nl:=[8,10,16,18],lw:=[6]}
def L5:Ann:={kinds:=[(6,.S)],nl:=[11,16,21,27,31,37,43,45,53,55,60,66],lw:=[6],loops:=[(0,{vals:=vN [1,2,37,38,39]})]}
def L6:Ann:={kinds:=[(5,.S),(8,.S)],nl:=[13,18,22,31,37,39,44,46,51,53,58,61,66,71,76,77],lw:=[5,8],loops:=[(0,{vals:=vN [1,71,72,73]})]}
def L8:Ann:={lw:=[2]}
def L9:Ann:={nl:=[16],loops:=[(0,{vals:=vN [0,1,5]})]}
def Ma:Ann:={iso:=false,hl:=[8],nl:=[8]}
def Mb:Ann:={iso:=false,hl:=[23,28,39,44],nl:=[14,23,28,33,39,44]}
def Mc:Ann:={iso:=false,kinds:=[(7,.S)],nl:=[13,15],lw:=[7],loops:=[(0,{vals:=vN [0,2,8,9,10]})]}
def Md:Ann:={iso:=false,nl:=[6,28,34,39,41,43,49,53],lw:=[4]}
def Me:Ann:={nl:=[11,23],loops:=[(0,{vals:=vN [0,5,6,7]})]}
def Mf:Ann:={joins:=[(4,{vals:=vN [3,4]}),(9,{vals:=vN [3,9]}),(14,{vals:=vN [3,14]}),(25,{vals:=[(25,none)]})]}
def Mg:Ann:={lw:=[2]}
def Mh:Ann:={lw:=[2]}
def Mi:Ann:={iso:=false,nl:=[10,12,16,21,23,27,31,39,41,47,49,55,57,61,63],lw:=[6]}
def Mj:Ann:={iso:=false,kinds:=[(7,.S)],nl:=[9,10,13,17],lw:=[7]}
def Mk:Ann:={iso:=false,kinds:=[(9,.S)],hb:=[7,31],no:=[45],nl:=[11,14,19,24,29,33,38,42,43],lw:=[6,7,9,47],loops:=[(0,{vals:=[(0,none),(4,none),(33,none),(34,none),(35,none),(7000,none),(7001,none),(7002,none),(7003,none),(8000,none),(8001,none),(8002,none),(8003,some 4)],locs:=[(6,7000,0),(7,8000,0)],lbs:=[(7000,4),(8000,4)]})],nils:=[(7,[3])]}
def Ml:Ann:={nl:=[15],loops:=[(0,{vals:=vN [0,1,7,8]})]}
def Mm:Ann:={iso:=false,kinds:=[(8,.S),(12,.S)],no:=[61],nl:=[14,16,20,26,33,37,42,45,50,55,58,59,66],lw:=[6,8,12],joins:=[(17,{vals:=vN [0,4,5,7,7000,7001,7002,7003],locs:=[(6,7000,0)],lbs:=[(7000,4)]})],loops:=[(0,{vals:=[(0,none),(4,none),(7,none),(8,none),(10,some 4),(50,none),(51,none),(52,none),(7000,none),(7001,none),(7002,none),(7003,none)],locs:=[(6,7000,0)],lbs:=[(7000,4)]})]}
def Mn:Ann:={iso:=false,kinds:=[(7,.S)],hl:=[47,54,60,69,90,105,110,127],ha:=[77],no:=[76],nl:=[12,15,17,19,22,26,30,35,40,47,54,56,60,69,71,73,84,90,92,95,105,107,110,112,117,119,121,127],lw:=[6,7],joins:=[(49,{vals:=vN [0,5,7,8,7000,7001,7002,7003],locs:=[(6,7000,0)],lbs:=[(7000,4)]}),(113,{vals:=vN [9,10,7000,7001,7002,7003],locs:=[(6,7000,0)],lbs:=[(7000,4)]})],ords:=[(2,[0,1,2,3,4,5,7,6,8])]}
def Mo:Ann:={nl:=[14,18],loops:=[(0,{vals:=vN [0,3]})]}
def Mp:Ann:={nl:=[4,5]}
def Mq:Ann:={}
def Mr:Ann:={}
def Mt:Ann:={iso:=false,kinds:=[(6,.S),(7,.S),(9,.S)],no:=[28,45,55,65],nl:=[24,25,42],lw:=[4,6,7,9],joins:=[(12,{vals:=vN [0,1,5000,5001,5002,5003,5004,5005],locs:=[(4,5000,0)],lbs:=[(5000,6)]})]}
def Mu:Ann:={no:=[8]}
def Mv:Ann:={}
def Mw:Ann:={}
def Mx:Ann:={nl:=[6,8,11,16,23,30,36,45,54,58,63,65],lw:=[2,4,17,24,31,37,46,55,66,67],joins:=[(12,{vals:=vN [1,11,12,3000,3001,3002,3003,3004,3005,5000,5001,5002,5003,5004,5005],locs:=[(2,3000,0),(4,5000,0)],lbs:=[(3000,6),(5000,6)]}),(19,{vals:=vN [1,11,19,3000,3001,3002,3003,3004,3005,5000,5001,5002,5003,5004,5005],locs:=[(2,3000,0),(4,5000,0)],lbs:=[(3000,6),(5000,6)]}),(26,{vals:=vN [1,11,26,3000,3001,3002,3003,3004,3005,5000,5001,5002,5003,5004,5005],locs:=[(2,3000,0),(4,5000,0)],lbs:=[(3000,6),(5000,6)]})]}
def My:Ann:={nl:=[6,10,14,20,24,30,34,39,44,54,59,63,67,73,80,86,96,100,106],joins:=[(47,{vals:=vN [1,6,47]})],loops:=[(1,{vals:=vN [1,80,81,82]})]}
def Mz:Ann:={nl:=[15],loops:=[(0,{vals:=vN [0,1,7,8]})]}
def MA:Ann:={nl:=[5,6]}
def MB:Ann:={kinds:=[(5,.S)],nl:=[7,12,14],lw:=[5],loops:=[(0,{vals:=vN [3,7,8,9]})]}
def MD:Ann:={nl:=[5,7]}
def ME:Ann:={iso:=false,kinds:=[(3,.S),(4,.S),(5,.S)],hl:=[17,51,93],no:=[65],nl:=[12,17,22,40,44,51,62,64,79,93],lw:=[2,3,4,5]}
def MF:Ann:={iso:=false,hb:=[3,5],no:=[28,35],lw:=[2,3,30,37],joins:=[(10,{vals:=[(0,none),(4,none),(3000,none),(3001,none),(3002,none),(3003,none),(3004,none),(3005,none),(4000,none),(4001,none),(4002,none),(4003,none),(4004,some 1),(4005,some 6)],locs:=[(2,3000,0),(3,4000,0)],lbs:=[(3000,6),(4000,6)]})],loops:=[(0,{vals:=[(0,none),(4,none),(3000,none),(3001,none),(3002,none),(3003,none),(3004,none),(3005,none),(4000,none),(4001,none),(4002,none),(4003,none),(4004,some 1),(4005,some 6)],locs:=[(2,3000,0),(3,4000,0)],lbs:=[(3000,6),(4000,6)]})],nils:=[(3,[4,5])]}
def MG:Ann:={iso:=false,no:=[17],joins:=[(9,{vals:=[(0,none),(3,some 6)]})],loops:=[(0,{vals:=[(0,none),(3,some 6)]})]}
def MH:Ann:={iso:=false,kinds:=[(3,.S),(4,.S)],hl:=[12,17,24,28,35,39],nl:=[12,17,24,28,31,35,39,42,44,48,53,58],lw:=[3,4]}
def MI:Ann:={iso:=false,kinds:=[(3,.S)],no:=[24],nl:=[9,15,19,29,31,36,41],lw:=[3],loops:=[(1,{vals:=vN [3,24,25,26]})]}
noncomputable def FP:List (Nat×(Func×Ann)):=[
(3,(Tryz.f3,Ub)),
(4,(Tryz.f4,Uc)),
(5,(Tryz.f5,Ud)),
(6,(Tryz.f6,Ue)),
(7,(Tryz.f7,Uf)),
(8,(Tryz.f8,Ug)),
(9,(Tryz.f9,Uh)),
(10,(Tryz.f10,Pa)),
(11,(Tryz.f11,Pb)),
(12,(Tryz.f12,Pf)),
(13,(Tryz.f13,Ph)),
(14,(Tryz.f14,Pi)),
(15,(Tryz.f15,Pj)),
(16,(Tryz.f16,Pk)),
(17,(Tryz.f17,Pl)),
(18,(Tryz.f18,Pm)),
(19,(Tryz.f19,Pn)),
(20,(Tryz.f20,Po)),
(21,(Tryz.f21,Pp)),
(22,(Tryz.f22,Pq)),
(24,(Tryz.f24,Pr)),
(26,(Tryz.f26,Ps)),
(27,(Tryz.f27,Pt)),
(28,(Tryz.f28,Pu)),
(29,(Tryz.f29,Pv)),
(30,(Tryz.f30,Pw)),
(32,(Tryz.f32,Px)),
(33,(Tryz.f33,Py)),
(34,(Tryz.f34,Pz)),
(35,(Tryz.f35,PC)),
(36,(Tryz.f36,PD)),
(37,(Tryz.f37,PE)),
(38,(Tryz.f38,PF)),
(39,(Tryz.f39,PG)),
(40,(Tryz.f40,PH)),
(41,(Tryz.f41,PI)),
(42,(Tryz.f42,PK)),
(43,(Tryz.f43,PL)),
(45,(Tryz.f45,PM)),
(46,(Tryz.f46,PN)),
(47,(Tryz.f47,PO)),
(48,(Tryz.f48,PP)),
(49,(Tryz.f49,PQ)),
(50,(Tryz.f50,PS)),
(51,(Tryz.f51,PT)),
(52,(Tryz.f52,PU)),
(53,(Tryz.f53,PV)),
(54,(Tryz.f54,PW)),
(55,(Tryz.f55,PX)),
(56,(Tryz.f56,PY)),
(57,(Tryz.f57,PZ)),
(58,(Tryz.f58,P0)),
(59,(Tryz.f59,P1)),
(60,(Tryz.f60,P2)),
(61,(Tryz.f61,P3)),
(62,(Tryz.f62,P4)),
(63,(Tryz.f63,P5)),
(64,(Tryz.f64,P6)),
(66,(Tryz.f66,P7)),
(67,(Tryz.f67,P8)),
(68,(Tryz.f68,P9)),
(69,(Tryz.f69,Qa)),
(70,(Tryz.f70,Qb)),
(71,(Tryz.f71,Qc)),
(72,(Tryz.f72,Qd)),
(73,(Tryz.f73,Qe)),
(74,(Tryz.f74,Qf)),
(75,(Tryz.f75,Qg)),
(76,(Tryz.f76,Qh)),
(77,(Tryz.f77,Qi)),
(78,(Tryz.f78,Qj)),
(79,(Tryz.f79,Qk)),
(80,(Tryz.f80,Ql)),
(81,(Tryz.f81,Qm)),
(82,(Tryz.f82,Qn)),
(83,(Tryz.f83,Qo)),
(84,(Tryz.f84,Qp)),
(86,(Tryz.f86,Qq)),
(87,(Tryz.f87,Qr)),
(88,(Tryz.f88,Qs)),
(89,(Tryz.f89,Qt)),
(90,(Tryz.f90,Qu)),
(91,(Tryz.f91,Qv)),
(92,(Tryz.f92,Qw)),
(93,(Tryz.f93,Qx)),
(94,(Tryz.f94,Qy)),
(95,(Tryz.f95,Qz)),
(96,(Tryz.f96,QA)),
(97,(Tryz.f97,QB)),
(98,(Tryz.f98,QC)),
(99,(Tryz.f99,QD)),
(100,(Tryz.f100,Lg)),
(101,(Tryz.f101,Lh)),
(102,(Tryz.f102,Li)),
(103,(Tryz.f103,Lj)),
(104,(Tryz.f104,Lk)),
(105,(Tryz.f105,Ll)),
(106,(Tryz.f106,Lm)),
(107,(Tryz.f107,Lo)),
(108,(Tryz.f108,Lp)),
(109,(Tryz.f109,Lq)),
(110,(Tryz.f110,Lr)),
(111,(Tryz.f111,Ls)),
(115,(Tryz.f115,Lt)),
(116,(Tryz.f116,Lu)),
(117,(Tryz.f117,Lv)),
(118,(Tryz.f118,Lw)),
(120,(Tryz.f120,Lx)),
(121,(Tryz.f121,Ly)),
(122,(Tryz.f122,Lz)),
(123,(Tryz.f123,LA)),
(124,(Tryz.f124,LC)),
(125,(Tryz.f125,LD)),
(126,(Tryz.f126,LF)),
(127,(Tryz.f127,LG)),
(128,(Tryz.f128,LH)),
(129,(Tryz.f129,LI)),
(130,(Tryz.f130,LJ)),
(131,(Tryz.f131,LK)),
(132,(Tryz.f132,LL)),
(133,(Tryz.f133,LM)),
(134,(Tryz.f134,LN)),
(135,(Tryz.f135,LO)),
(137,(Tryz.f137,LP)),
(138,(Tryz.f138,LQ)),
(139,(Tryz.f139,LR)),
(140,(Tryz.f140,LS)),
(141,(Tryz.f141,LU)),
(142,(Tryz.f142,LV)),
(143,(Tryz.f143,LW)),
(144,(Tryz.f144,LX)),
(145,(Tryz.f145,LY)),
(147,(Tryz.f147,LZ)),
(148,(Tryz.f148,L4)),
(150,(Tryz.f150,L5)),
(151,(Tryz.f151,L6)),
(152,(Tryz.f152,L8)),
(153,(Tryz.f153,L9)),
(154,(Tryz.f154,Ma)),
(155,(Tryz.f155,Mb)),
(156,(Tryz.f156,Mc)),
(157,(Tryz.f157,Md)),
(158,(Tryz.f158,Me)),
(159,(Tryz.f159,Mf)),
(160,(Tryz.f160,Mg)),
(161,(Tryz.f161,Mh)),
(162,(Tryz.f162,Mi)),
(163,(Tryz.f163,Mj)),
(164,(Tryz.f164,Mk)),
(165,(Tryz.f165,Ml)),
(166,(Tryz.f166,Mm)),
(167,(Tryz.f167,Mn)),
(168,(Tryz.f168,Mo)),
(169,(Tryz.f169,Mp)),
(170,(Tryz.f170,Mq)),
(171,(Tryz.f171,Mr)),
(172,(Tryz.f172,Mt)),
(173,(Tryz.f173,Mu)),
(176,(Tryz.f176,Mv)),
(177,(Tryz.f177,Mw)),
(179,(Tryz.f179,Mx)),
(180,(Tryz.f180,My)),
(181,(Tryz.f181,Mz)),
(182,(Tryz.f182,MA)),
(183,(Tryz.f183,MB)),
(184,(Tryz.f184,MD)),
(185,(Tryz.f185,ME)),
(188,(Tryz.f188,MF)),
(189,(Tryz.f189,MG)),
(190,(Tryz.f190,MH)),
(197,(Tryz.f197,MI))]
def Dy:List (Nat×(Func×Ann))->Nat->Option (Func×Ann)
 |[],_=>none
 |(k,x):: r,t=>bif Nat.beq k t then some x else Dy r t
def own:FuncId->Option Nat:=fun f=>bif Nat.beq f 119 then some 1 else bif Nat.beq f 176 then some 1 else bif Nat.beq f 177 then some 4 else none
noncomputable def other:FuncId->Option ((FuncId->List AV->M AV)->List AV->M AV):=fun f=>
 bif Nat.beq f 23 then some (ep T 24)else bif Nat.beq f 25 then some (cu T 23)else bif Nat.beq f 31 then some (sJ)else bif Nat.beq f 44 then some (ep T 22)else bif Nat.beq f 85 then some (Bl 30 .i64 (.agg [.int .i64 0,.int .i64 0,.sl [],.sl []]))else bif Nat.beq f 112 then some (cu T 29)else bif Nat.beq f 113 then some (cu T 34)else bif Nat.beq f 114 then some (cu T 35)else bif Nat.beq f 119 then some (ep T 31)else bif Nat.beq f 136 then some (sO)else bif Nat.beq f 149 then some (lI)else none
noncomputable def pg:Pg:={ T:=T,funcs:=Dy FP,own:=own,other:=other,nw:=fun f=>bif Nat.beq f 25 then true else bif Nat.beq f 112 then true else bif Nat.beq f 113 then true else bif Nat.beq f 114 then true else false }
noncomputable def zK(call:FuncId->List AV->M AV):FuncId->List AV->M AV:=fun f args=>bif pg.iso f then dx (call f args)else call f args
def gZ:fP pg:=by
 intro f E hE call calls hc;have h0:other f=some E:=hE;unfold other at h0;rcases fA h0 with rfl|h0
 ·exact oU _ _ _ _
 rcases fA h0 with rfl|h0
 ·exact mn _ _ _ _
 rcases fA h0 with rfl|h0
 ·exact Ib _ _ hc
 rcases fA h0 with rfl|h0
 ·exact oU _ _ _ _
 rcases fA h0 with rfl|h0
 ·exact II _ _ _ _ _ hc
 rcases fA h0 with rfl|h0
 ·exact mn _ _ _ _
 rcases fA h0 with rfl|h0
 ·exact mn _ _ _ _
 rcases fA h0 with rfl|h0
 ·exact mn _ _ _ _
 rcases fA h0 with rfl|h0
 ·exact oU _ _ _ _
 rcases fA h0 with rfl|h0
 ·exact cJ.const _
 rcases fA h0 with rfl|h0
 ·exact cJ.const _
 cases h0
structure RV (m:M AV)
structure RL (m:M (List AV))
structure RI (m:AV)
instance {m:M AV}:CoeOut (RV m) (M AV):=⟨fun _=>m⟩
instance {m:M (List AV)}:CoeOut (RL m) (M (List AV)):=⟨fun _=>m⟩
instance {m:AV}:CoeOut (RI m) AV:=⟨fun _=>m⟩
def qi(n:Int):RI (AV.int .i64 n):=⟨⟩
def qc(x:AV):RI (AV.ip (aa x)):=⟨⟩
structure RM (l:List AV)
instance {l:List AV}:CoeOut (RM l) (List AV):=⟨fun _=>l⟩
def SA(v:List AV):RM [ab v 0,ab v 1,ab v 2]:=⟨⟩
def nK(v l:List AV):RM (ab v 0::ab v 1::ab v 2::l):=⟨⟩
def gq(v:List AV):RM [ab v 0,ab v 1,ab v 2,ab v 3]:=⟨⟩
def ow(v l:List AV):RM (ab v 0::ab v 1::ab v 2::ab v 3::l):=⟨⟩
def sI(v:List AV):RM [ab v 0,ab v 1,ab v 2,ab v 3,ab v 4]:=⟨⟩
def vX(v l:List AV):RM (ab v 0::ab v 1::ab v 2::ab v 3::ab v 4::l):=⟨⟩
def uK(v:List AV):RM [ab v 0,ab v 1,ab v 2,ab v 3,ab v 4,ab v 5]:=⟨⟩
def VU(v l:List AV):RM (ab v 0::ab v 1::ab v 2::ab v 3::ab v 4::ab v 5::l):=⟨⟩
def SC(v l:List AV):RM (ab v 0::ab v 1::ab v 2::ab v 3::ab v 4::ab v 5::ab v 6::l):=⟨⟩
def SB(v:List AV):RM [ab v 0,ab v 1,ab v 2,ab v 3,ab v 4,ab v 5,ab v 6,ab v 7]:=⟨⟩
def VV(v l:List AV):RM (ab v 0::ab v 1::ab v 2::ab v 3::ab v 4::ab v 5::ab v 6::ab v 7::l):=⟨⟩
def VW(v l:List AV):RM (ab v 0::ab v 1::ab v 2::ab v 3::ab v 4::ab v 5::ab v 6::ab v 7::ab v 8::l):=⟨⟩
def HY(v:List AV):RM [ab v 0,ab v 1,ab v 2,ab v 3,ab v 4,ab v 5,ab v 6,ab v 7,ab v 8,ab v 9,ab v 10,ab v 11]:=⟨⟩
def Wu(v l:List AV):RM (ab v 0::ab v 1::ab v 2::ab v 3::ab v 4::ab v 5::ab v 6::ab v 7::ab v 8::ab v 9::ab v 10::ab v 11::l):=⟨⟩
def mX(v:List AV):RM [ab v 0,ab v 1,ab v 2,ab v 3,ab v 4,ab v 5,ab v 6,ab v 7,ab v 8,ab v 9,ab v 10,ab v 11,ab v 12]:=⟨⟩
def Wv(v l:List AV):RM (ab v 0::ab v 1::ab v 2::ab v 3::ab v 4::ab v 5::ab v 6::ab v 7::ab v 8::ab v 9::ab v 10::ab v 11::ab v 12::l):=⟨⟩
def ez(t:TypeId)(p:AV)(f:AV->M (AV)):RV (ar (bP (ax T t p)) f):=⟨⟩
def cq(t:TypeId)(p:AV)(i:Nat)(f:AV->M (AV)):RV (ar (bP (ah T t p i)) f):=⟨⟩
def aU(o:BinOp)(t:TypeId)(x y:AV)(f:AV->M (AV)):RV (ar (bP (cz T o t x y)) f):=⟨⟩
def cH(t:TypeId)(p:AV)(f:AV->M (AV)):RV (ar (bP (bm T t p)) f):=⟨⟩
def kT(t:TypeId)(p i:AV)(f:AV->M (AV)):RV (ar (bP (aA T t p i)) f):=⟨⟩
def dT(p:AV)(f:AV->M (AV)):RV (ar (bP (ke p)) f):=⟨⟩
def iy(b:Bool)(t:TypeId)(l:List (Nat×AV))(f:AV->M (AV)):RV (ar (bP (cE T b t l)) f):=⟨⟩
def m0(o:UnOp)(x:AV)(f:AV->M (AV)):RV (ar (bP (Kz o x)) f):=⟨⟩
def iz(x:AV)(i:Nat)(f:AV->M (AV)):RV (ar (bP (dt x i)) f):=⟨⟩
def sb(t:TypeId)(n:Nat)(l:List (Nat×AV))(f:AV->M (AV)):RV (ar (bP (aP T t n l)) f):=⟨⟩
def eG(t:TypeId)(p:AV)(f:AV->M (AV)):RV (ar (bb T t p) f):=⟨⟩
def m5(t:TypeId)(p v:AV)(f:AV->M (AV)):RV (ar (bU T t p v) f):=⟨⟩
def iw(n:Nat)(x:AV)(f:AV->M (AV)):RV (ar (cg n x) f):=⟨⟩
def fN(n:Nat)(l:List Nat)(x:AV)(f:AV->M (AV)):RV (ar (bF n l x) f):=⟨⟩
def AW(x:AV)(f:AV->M (AV)):RV (ar (gG x) f):=⟨⟩
def aL(t:TypeId)(p:AV)(i:Nat)(u:TypeId)(f:AV->M (AV)):RV (ar (bP (ah T t p i)) fun v=>ar (bP (ax T u v)) f):=⟨⟩
def ee(t:TypeId)(p i:AV)(u:TypeId)(f:AV->M (AV)):RV (ar (bP (aA T t p i)) fun v=>ar (bP (ax T u v)) f):=⟨⟩
def bQ(o:BinOp)(t:TypeId)(x y:AV)(m n:M (AV)):RV (ar (bP (cz T o t x y)) fun v=>aC v m n):=⟨⟩
def dP(c:AV)(m:M (List AV))(f:AV->M (AV)):RV (ar (aM c true 1 m) fun w=>ar (bP (gp c (ab w 0) (AV.bool false))) f):=⟨⟩
def eg(c:AV)(m:M (List AV))(f:AV->M (AV)):RV (ar (aM c false 1 m) fun w=>ar (bP (gp c (AV.bool true) (ab w 0))) f):=⟨⟩
def yE(t:TypeId)(p:AV)(f:AV->M (List AV)):RL (ar (bP (ax T t p)) f):=⟨⟩
def FY(t:TypeId)(p:AV)(i:Nat)(f:AV->M (List AV)):RL (ar (bP (ah T t p i)) f):=⟨⟩
def cN(o:BinOp)(t:TypeId)(x y:AV)(f:AV->M (List AV)):RL (ar (bP (cz T o t x y)) f):=⟨⟩
def AQ(c x y:AV)(f:AV->M (List AV)):RL (ar (bP (gp c x y)) f):=⟨⟩
def nI(t:TypeId)(p:AV)(f:AV->M (List AV)):RL (ar (bP (bm T t p)) f):=⟨⟩
def yD(t:TypeId)(p i:AV)(f:AV->M (List AV)):RL (ar (bP (aA T t p i)) f):=⟨⟩
def Wt(p:AV)(f:AV->M (List AV)):RL (ar (bP (ke p)) f):=⟨⟩
def Ti(b:Bool)(t:TypeId)(l:List (Nat×AV))(f:AV->M (List AV)):RL (ar (bP (cE T b t l)) f):=⟨⟩
def lX(o:UnOp)(x:AV)(f:AV->M (List AV)):RL (ar (bP (Kz o x)) f):=⟨⟩
def VO(t:TypeId)(n:Nat)(l:List (Nat×AV))(f:AV->M (List AV)):RL (ar (bP (aP T t n l)) f):=⟨⟩
def W0(t:TypeId)(p:AV)(f:AV->M (List AV)):RL (ar (bb T t p) f):=⟨⟩
def bw(t:TypeId)(p:AV)(i:Nat)(u:TypeId)(f:AV->M (List AV)):RL (ar (bP (ah T t p i)) fun v=>ar (bP (ax T u v)) f):=⟨⟩
def Ws(t:TypeId)(p i:AV)(u:TypeId)(f:AV->M (List AV)):RL (ar (bP (aA T t p i)) fun v=>ar (bP (ax T u v)) f):=⟨⟩
end Go.Proofs.YtbndmpiddinalaaGreatDoor
namespace Go.Proofs.YtbndmpiddinalaaGreatDoor
open Go Go.Av
set_option maxRecDepth 1000000
instance dr0:Dr:=⟨False⟩
def Sl{p:Prop}(h:Dr.on):p:=False.elim h
def Oh:(tab.map fun x=>Oi Tryz.prog x.1)=tab.map fun x=>some x.2:=ZR
theorem wM:(l:List (Nat×TI))->(t:Nat)->(ti:TI)->Dz l t=some ti->(t,ti)∈l
 |[],t,ti,h=>by cases h
 | (k,x):: r,t,ti,h=>by
  simp only[Dz]at h;cases hk:Nat.beq k t with
  |true=>
   simp_all
  |false=>
   rw[hk]at h;exact YO _ (wM r t ti h)
theorem uC{α β:Type}{f g:α->β}:{l:List α} ->l.map f=l.map g->∀x∈l,f x=g x
 |[],_,x,hx=>by cases hx
 |a:: l,h,x,hx=>by
  simp only[Ye,ZI]at h;rcases XZ.1 hx with rfl|hx
  all_goals simp_all
def tok:TOK Tryz.prog T:=⟨fun t ti h=>uC Oh (t,ti) (wM tab t ti h),ZR⟩
theorem Kt:(FP.map fun x=>Tryz.prog.funcs[x.1]?)=FP.map fun x=>some x.2.1:=ZR
theorem CW:(FP.map fun x=>x.2.1.name== "runtime.NumGoroutine")=FP.map fun _=>false:=ZR
theorem wL:(l:List (Nat×(Func×Ann)))->(t:Nat)->(x:Func×Ann)->Dy l t=some x->(t,x)∈l
 |[],t,ti,h=>by cases h
 | (k,x):: r,t,ti,h=>by
  simp only[Dy]at h;cases hk:Nat.beq k t with
  |true=>
   simp_all
  |false=>
   rw[hk]at h;exact YO _ (wL r t ti h)
def Ha:∀f fn a,pg.funcs f=some (fn,a)->Tryz.prog.funcs[f]? = some fn/\(fn.name== "runtime.NumGoroutine")=false:=by
 intro f fn a h
 have:=wL FP f (fn,a) h
 grind [uC,Kt,CW]
end Go.Proofs.YtbndmpiddinalaaGreatDoor
namespace Go.Proofs.YtbndmpiddinalaaGreatDoor
open Go Go.Av Go.RowKit
set_option maxRecDepth 100000
def yT{S:aD}{β:List cD}{s:List UInt8}{r:List Value}{l:List AV}(hv:bA S β (.str s:: l) r):∃x r',r= .string x:: r'/\x.data.toList=s/\bA S β l r':=by
 simp only[bA,VR]at hv
 grind
def N0(call:FuncId->List AV->M AV)(args:List AV)(h:Hp)(S:aD)(β:List cD)(w:World)(vs:List Value)(hr:lI call args h≠.fail)(hg:wb S β h w)(hw:Wf S w)(hh:dC S β w h)(hv:bA S β args vs):
  Calls Tryz.prog 149 vs.toArray w (ff none S β h w (lI call args h)):=by
 unfold lI at hr |-;split at hr
 ·rename_i s t;obtain⟨x,r,rfl,hx,hv⟩:=yT hv;obtain⟨y,r,rfl,hy,hv⟩:=yT hv;simp only[bA]at hv;subst hv;cases hc:decide (s.length<4294967281)with
  |false=>rw[hc]at hr;exact absurd rfl hr
  |true=>
   simp only[Xs];have hlen:x.size=s.length:=by rw[<- hx,Yg];rfl
   obtain⟨m,hm⟩:=hg.1.max;refine (Any.strings_Contains Xg x y m w ZN hm).mono ?_;rintro e w' ⟨rfl,rfl⟩;exact zH hw hh (Below.refl _ _) Sl (by simp only[VR];rw[hx,hy])
 ·exact absurd rfl hr
def Ku{w:World}(h:GOKw w):Lib.TabIs Tryz.prog w "strings.asciiSpace" .u8 Lib.asciiSpaceTab:=by
 obtain⟨t,fr,hp⟩:=h.asc
 have hn:Tryz.prog.globalNamed "strings.asciiSpace" = some 1:=ZR
 grind [Lib.TabIs,World.var?]
def NZ(call:FuncId->List AV->M AV)(args:List AV)(h:Hp)(S:aD)(β:List cD)(w:World)(vs:List Value)(hr:sO call args h≠.fail)(hg:wb S β h w)(hw:Wf S w)(hh:dC S β w h)(hv:bA S β args vs):
  Calls Tryz.prog 136 vs.toArray w (ff none S β h w (sO call args h)):=by
 unfold sO at hr |-;split at hr
 ·rename_i s;obtain⟨x,r,rfl,hx,hv⟩:=yT hv;simp only[bA]at hv;subst hv;cases hc:(decide (s.length<4294967281)&&s.all (fun b=>decide (b.toNat<128)))with
  |false=>rw[hc]at hr;exact absurd rfl hr
  | true=>
   simp only[Xs];rw[Xq]at hc;have hlen:x.size=s.length:=by rw[<- hx,Yg];rfl
   have hasc:∀(j:Nat)(b:UInt8),x.data.toList[j]? = some b->b.toNat<128:=fun j b hj=>by
    grind
   refine (Any.strings_Fields Xf ZR ZR x w ZN hasc (Ku hg.1)).mono ?_;rintro e w' ⟨rfl,rfl⟩;have hl:((Lib.fields x.data.toList).map fun l=>(⟨l.toArray⟩:ByteArray)).map (·.data.toList)=Lib.fields s:=by
    rw[hx,Zz]
    conv=>rhs;rw[<- List.map_id (Lib.fields s)]
    exact YG fun l _=>rfl
   have:=Iy S β w.heap.size ((Lib.fields x.data.toList).map fun l=>(⟨l.toArray⟩:ByteArray)) _ hl
   simp only[Zz,Yt]at this;exact EN hw hh ((Below.refl _ _).alloc (Xt _) _) Sl (Row.new w _ _) (Xt _) this
 ·exact absurd rfl hr
end Go.Proofs.YtbndmpiddinalaaGreatDoor
namespace Go.Proofs.YtbndmpiddinalaaGreatDoor
open Go Go.Av
set_option maxRecDepth 100000
noncomputable def oW(n:Nat)(a:Ann):Cx:={ T:=T,call:=fun _ _=>gQ,own:=own,iso:=fun _=>false,nw:=fun _=>false,nt:=n,ann:=a }
def iX(n:Nat)(a:Ann):dB Tryz.prog (oW n a).own (oW n a).call:=fun f args h S β w vs hr=>absurd rfl hr
def mq(n:Nat)(a:Ann):IsoCall (oW n a):=⟨fun f args h=>Bool.noConfusion h,fun f args h=>Bool.noConfusion h⟩
def Ut(e:AV)(es:List AV):bZ (oW Tryz.f23.ntmps Dc) (dc 0) Tryz.f23 (own 23) [.sl (e:: es)]=ar (bP (dG T 24 (.sl []) (.sl (e:: es)))) fun v=>ar (bP (some v)) am:=ZR
def Uu:bZ (oW Tryz.f23.ntmps Dc) (dc 0) Tryz.f23 (own 23) [.hn]=ar (bP (some (.sl []))) am:=ZR
def Uv(l off:Nat):bZ (oW Tryz.f23.ntmps Dc) (dc 0) Tryz.f23 (own 23) [.hs l off 0 1 false]=ar (bP (dG T 24 (.sl []) (.hs l off 0 1 false))) fun v=>ar (bP (some v)) am:=ZR
def Uw(l off:Nat):dG T 24 (.sl []) (.hs l off 0 1 false)=some (.sl []):=by rfl
def Sq(call:FuncId->List AV->M AV)(args:List AV)(h:Hp)(S:aD)(β:List cD)(w:World)(vs:List Value)(hr:ep T 24 call args h≠.fail)(hg:wb S β h w)(hw:Wf S w)(hh:dC S β w h)(hv:bA S β args vs):
  Calls Tryz.prog 23 vs.toArray w (ff (own 23) S β h w (ep T 24 call args h)):=by
 have key:∀es,args=[.sl es]->Calls Tryz.prog 23 vs.toArray w (ff (own 23) S β h w (ep T 24 call args h)):=by
  rintro es rfl;exact (nq (cx:=oW Tryz.f23.ntmps Dc) (E:=fun es h=>ep T 24 call [.sl es] h) tok (iX _ _) (mq _ _) Tryz.func23 rfl (fun h=>by rfl) (fun e es h=>by rw[Ut];exact YW (kw _) h) (fun h=>by rw[Uu];rfl) (fun l off h=>by rw[Uv,Uw];rfl) hr hg hw hh hv).1
 unfold ep at hr;split at hr
 ·exact key _ rfl
 ·exact absurd rfl hr
def UA(e:AV)(es:List AV):bZ (oW Tryz.f44.ntmps De) (dc 0) Tryz.f44 (own 44) [.sl (e:: es)]=ar (bP (dG T 22 (.sl []) (.sl (e:: es)))) fun v=>ar (bP (some v)) am:=ZR
def UB:bZ (oW Tryz.f44.ntmps De) (dc 0) Tryz.f44 (own 44) [.hn]=ar (bP (some (.sl []))) am:=ZR
def UC(l off:Nat):bZ (oW Tryz.f44.ntmps De) (dc 0) Tryz.f44 (own 44) [.hs l off 0 1 false]=ar (bP (dG T 22 (.sl []) (.hs l off 0 1 false))) fun v=>ar (bP (some v)) am:=ZR
def UE(l off:Nat):dG T 22 (.sl []) (.hs l off 0 1 false)=some (.sl []):=by rfl
def Su(call:FuncId->List AV->M AV)(args:List AV)(h:Hp)(S:aD)(β:List cD)(w:World)(vs:List Value)(hr:ep T 22 call args h≠.fail)(hg:wb S β h w)(hw:Wf S w)(hh:dC S β w h)(hv:bA S β args vs):
  Calls Tryz.prog 44 vs.toArray w (ff (own 44) S β h w (ep T 22 call args h)):=by
 have key:∀es,args=[.sl es]->Calls Tryz.prog 44 vs.toArray w (ff (own 44) S β h w (ep T 22 call args h)):=by
  rintro es rfl;exact (nq (cx:=oW Tryz.f44.ntmps De) (E:=fun es h=>ep T 22 call [.sl es] h) tok (iX _ _) (mq _ _) Tryz.func44 rfl (fun h=>by rfl) (fun e es h=>by rw[UA];exact YW (kw _) h) (fun h=>by rw[UB];rfl) (fun l off h=>by rw[UC,UE];rfl) hr hg hw hh hv).1
 unfold ep at hr;split at hr
 ·exact key _ rfl
 ·exact absurd rfl hr
def QW(e:AV)(es:List AV):bZ (oW Tryz.f119.ntmps xU) (dc 0) Tryz.f119 (own 119) [.sl (e:: es)]=ar (bP (dG T 31 (.sl []) (.sl (e:: es)))) fun v=>ar (bP (some v)) am:=ZR
def QX:bZ (oW Tryz.f119.ntmps xU) (dc 0) Tryz.f119 (own 119) [.hn]=ar (bP (some (.sl []))) am:=ZR
def QY(l off:Nat):bZ (oW Tryz.f119.ntmps xU) (dc 0) Tryz.f119 (own 119) [.hs l off 0 1 false]=ar (bP (dG T 31 (.sl []) (.hs l off 0 1 false))) fun v=>ar (bP (some v)) am:=ZR
def QZ(l off:Nat):dG T 31 (.sl []) (.hs l off 0 1 false)=some (.sl []):=by rfl
def NY(call:FuncId->List AV->M AV)(args:List AV)(h:Hp)(S:aD)(β:List cD)(w:World)(vs:List Value)(hr:ep T 31 call args h≠.fail)(hg:wb S β h w)(hw:Wf S w)(hh:dC S β w h)(hv:bA S β args vs):
  Calls Tryz.prog 119 vs.toArray w (ff (own 119) S β h w (ep T 31 call args h)):=by
 have key:∀es,args=[.sl es]->Calls Tryz.prog 119 vs.toArray w (ff (own 119) S β h w (ep T 31 call args h)):=by
  rintro es rfl;exact (nq (cx:=oW Tryz.f119.ntmps xU) (E:=fun es h=>ep T 31 call [.sl es] h) tok (iX _ _) (mq _ _) Tryz.func119 rfl (fun h=>by rfl) (fun e es h=>by rw[QW];exact YW (kw _) h) (fun h=>by rw[QX];rfl) (fun l off h=>by rw[QY,QZ];rfl) hr hg hw hh hv).1
 unfold ep at hr;split at hr
 ·exact key _ rfl
 ·exact absurd rfl hr
def Ux(e:AV)(es:List AV):bZ (oW Tryz.f25.ntmps Dd) (dc 0) Tryz.f25 none [.sl (e:: es)]=ar (fZ T 23 false .he (.sl (e:: es))) fun v=>ar (bP (some v)) am:=ZR
def Uy:bZ (oW Tryz.f25.ntmps Dd) (dc 0) Tryz.f25 none [.hn]=ar (bP (some .hn)) am:=ZR
def Uz(l off len sz:Nat)(ag:Bool):bZ (oW Tryz.f25.ntmps Dd) (dc 0) Tryz.f25 none [.hs l off len sz ag]=ar (fZ T 23 false .he (.hs l off len sz ag)) fun v=>ar (bP (some v)) am:=ZR
def Sr(call:FuncId->List AV->M AV)(args:List AV)(h:Hp)(S:aD)(β:List cD)(w:World)(vs:List Value)(hr:cu T 23 call args h≠.fail)(hg:wb S β h w)(hw:Wf S w)(hh:dC S β w h)(hv:bA S β args vs):
  Calls Tryz.prog 25 vs.toArray w (ff (own 25) S β h w (cu T 23 call args h)):=by
 have ho:own 25=none:=ZR
 rw[ho];unfold cu at hr |-;split at hr
 ·exact ka (cx:=oW Tryz.f25.ntmps Dd) tok (iX _ _) (mq _ _) Tryz.func25 rfl (fun h=>by rfl) (fun e es h=>by rw[Ux];exact YW (kw _) h) (fun h=>by rw[Uy];rfl) (fun l off len sz ag h=>by rw[Uz];exact YW (kw _) h) hr hg hw hh hv
 ·exact absurd rfl hr
def QN(e:AV)(es:List AV):bZ (oW Tryz.f112.ntmps xR) (dc 0) Tryz.f112 none [.sl (e:: es)]=ar (fZ T 29 false .he (.sl (e:: es))) fun v=>ar (bP (some v)) am:=ZR
def QO:bZ (oW Tryz.f112.ntmps xR) (dc 0) Tryz.f112 none [.hn]=ar (bP (some .hn)) am:=ZR
def QP(l off len sz:Nat)(ag:Bool):bZ (oW Tryz.f112.ntmps xR) (dc 0) Tryz.f112 none [.hs l off len sz ag]=ar (fZ T 29 false .he (.hs l off len sz ag)) fun v=>ar (bP (some v)) am:=ZR
def NV(call:FuncId->List AV->M AV)(args:List AV)(h:Hp)(S:aD)(β:List cD)(w:World)(vs:List Value)(hr:cu T 29 call args h≠.fail)(hg:wb S β h w)(hw:Wf S w)(hh:dC S β w h)(hv:bA S β args vs):
  Calls Tryz.prog 112 vs.toArray w (ff (own 112) S β h w (cu T 29 call args h)):=by
 have ho:own 112=none:=ZR
 rw[ho];unfold cu at hr |-;split at hr
 ·exact ka (cx:=oW Tryz.f112.ntmps xR) tok (iX _ _) (mq _ _) Tryz.func112 rfl (fun h=>by rfl) (fun e es h=>by rw[QN];exact YW (kw _) h) (fun h=>by rw[QO];rfl) (fun l off len sz ag h=>by rw[QP];exact YW (kw _) h) hr hg hw hh hv
 ·exact absurd rfl hr
def QQ(e:AV)(es:List AV):bZ (oW Tryz.f113.ntmps xS) (dc 0) Tryz.f113 none [.sl (e:: es)]=ar (fZ T 34 false .he (.sl (e:: es))) fun v=>ar (bP (some v)) am:=ZR
def QR:bZ (oW Tryz.f113.ntmps xS) (dc 0) Tryz.f113 none [.hn]=ar (bP (some .hn)) am:=ZR
def QS(l off len sz:Nat)(ag:Bool):bZ (oW Tryz.f113.ntmps xS) (dc 0) Tryz.f113 none [.hs l off len sz ag]=ar (fZ T 34 false .he (.hs l off len sz ag)) fun v=>ar (bP (some v)) am:=ZR
def NW(call:FuncId->List AV->M AV)(args:List AV)(h:Hp)(S:aD)(β:List cD)(w:World)(vs:List Value)(hr:cu T 34 call args h≠.fail)(hg:wb S β h w)(hw:Wf S w)(hh:dC S β w h)(hv:bA S β args vs):
  Calls Tryz.prog 113 vs.toArray w (ff (own 113) S β h w (cu T 34 call args h)):=by
 have ho:own 113=none:=ZR
 rw[ho];unfold cu at hr |-;split at hr
 ·exact ka (cx:=oW Tryz.f113.ntmps xS) tok (iX _ _) (mq _ _) Tryz.func113 rfl (fun h=>by rfl) (fun e es h=>by rw[QQ];exact YW (kw _) h) (fun h=>by rw[QR];rfl) (fun l off len sz ag h=>by rw[QS];exact YW (kw _) h) hr hg hw hh hv
 ·exact absurd rfl hr
def QT(e:AV)(es:List AV):bZ (oW Tryz.f114.ntmps xT) (dc 0) Tryz.f114 none [.sl (e:: es)]=ar (fZ T 35 false .he (.sl (e:: es))) fun v=>ar (bP (some v)) am:=ZR
def QU:bZ (oW Tryz.f114.ntmps xT) (dc 0) Tryz.f114 none [.hn]=ar (bP (some .hn)) am:=ZR
def QV(l off len sz:Nat)(ag:Bool):bZ (oW Tryz.f114.ntmps xT) (dc 0) Tryz.f114 none [.hs l off len sz ag]=ar (fZ T 35 false .he (.hs l off len sz ag)) fun v=>ar (bP (some v)) am:=ZR
def NX(call:FuncId->List AV->M AV)(args:List AV)(h:Hp)(S:aD)(β:List cD)(w:World)(vs:List Value)(hr:cu T 35 call args h≠.fail)(hg:wb S β h w)(hw:Wf S w)(hh:dC S β w h)(hv:bA S β args vs):
  Calls Tryz.prog 114 vs.toArray w (ff (own 114) S β h w (cu T 35 call args h)):=by
 have ho:own 114=none:=ZR
 rw[ho];unfold cu at hr |-;split at hr
 ·exact ka (cx:=oW Tryz.f114.ntmps xT) tok (iX _ _) (mq _ _) Tryz.func114 rfl (fun h=>by rfl) (fun e es h=>by rw[QT];exact YW (kw _) h) (fun h=>by rw[QU];rfl) (fun l off len sz ag h=>by rw[QV];exact YW (kw _) h) hr hg hw hh hv
 ·exact absurd rfl hr
def O8:Prop:=∀call,dB Tryz.prog own call->∀(args:List AV)(h:Hp)(S:aD)(β:List cD)(w:World)(vs:List Value),Bl 30 .i64 (.agg [.int .i64 0,.int .i64 0,.sl [],.sl []]) call args h≠.fail->wb S β h w->Wf S w->dC S β w h->bA S β args vs->
 Calls Tryz.prog 85 vs.toArray w (ff none S β h w (Bl 30 .i64 (.agg [.int .i64 0,.int .i64 0,.sl [],.sl []]) call args h))
end Go.Proofs.YtbndmpiddinalaaGreatDoor
namespace Go.Proofs.YtbndmpiddinalaaGreatDoor
open Go Go.Av
def BS(p q:Addr)(w:World):CallsD Tryz.prog 146 #[.pointer (some p),.pointer (some q)] .returning w fun e u' w'=>e= .returned (.tuple #[])/\u'= .returning/\w'=w:=by
 refine callsD_of_wpS Tryz.func146 rfl fun c₀ cs hu=>?_;apply wpS_seq;apply wpS_region;simp[wpOpsS,go_sem,recoverD,hu,Tryz.ntmps146,Exit.thenS];refine wpS_of_wp ?_
 go_wp2
 cases c₀;simp_all[bodyPostS,results]
def Gk(n:Int)(w:World):(Instr.typeAssert (.iface 30 (.int .i64 n)) 20 30 true).run Tryz.prog w= .ok (.tuple #[.int .i64 n,.bool true]) w:=ZR
def MQ(w:World):(Instr.build 33 #[]).run Tryz.prog w= .ok (.agg #[.int .i64 0,.int .i64 0,.slice none 0 0,.slice none 0 0]) w:=by
 obtain⟨v,h1,h2⟩:=zA (P:=Tryz.prog) (T:=T) (w:=w) (S:=fun _ _=>none) (β:=[]) (told:=true) (t:=33) (parts:=[]) (r:=.agg [.int .i64 0,.int .i64 0,.hn,.hn]) (qs:=#[]) tok rfl rfl;rw[h1];simp only[VR,bA]at h2
 grind
set_option maxHeartbeats 4000000 in
set_option maxRecDepth 100000 in
def EK(b c:Nat)(x0 x1 x2 x3 y0:Value)(n:Int)(w:World)(c0:w.cell? ⟨b,0,none⟩=some x0)(c1:w.cell? ⟨b,1,none⟩=some x1)(c2:w.cell? ⟨b,2,none⟩=some x2)(c3:w.cell? ⟨b,3,none⟩=some x3)(d0:w.cell? ⟨c,0,none⟩=some y0)(f0:w.frozen? ⟨b,0,none⟩=false)(f1:w.frozen? ⟨b,1,none⟩=false)(f2:w.frozen? ⟨b,2,none⟩=false)(f3:w.frozen? ⟨b,3,none⟩=false)(g0:w.frozen? ⟨c,0,none⟩=false)(hne:¬b=c)(hne':¬c=b):
  CallsD Tryz.prog 146 #[.pointer (some ⟨b,0,none⟩),.pointer (some ⟨c,0,none⟩)] (.panicking [{ v:=.iface 30 (.int .i64 n),recovered:=false }]) w fun e u' w'=>
   e= .returned (.tuple #[])/\u'= .panicking [{ v:=.iface 30 (.int .i64 n),recovered:=true }]/\w'=((((w.setCell ⟨b,0,none⟩ (.int .i64 0)).setCell ⟨b,1,none⟩ (.int .i64 0)).setCell ⟨b,2,none⟩ (.slice none 0 0)).setCell ⟨b,3,none⟩ (.slice none 0 0)).setCell ⟨c,0,none⟩ (.int .i64 n):=by
 refine callsD_of_wpS Tryz.func146 rfl fun c₀ cs hu=>?_;apply wpS_seq;apply wpS_region;simp[wpOpsS,go_sem,recoverD,hu,Tryz.ntmps146,Exit.thenS];refine wpS_of_wp ?_;have h1:=Gk n;have h2:=MQ
 go_wp2
 simp_all[bodyPostS,results]
end Go.Proofs.YtbndmpiddinalaaGreatDoor
namespace Go.Proofs.YtbndmpiddinalaaGreatDoor
open Go Go.Av
set_option maxRecDepth 100000
def rp(w:World):World:=(w.alloc (Obj.cells #[Value.int IntKind.i64 0,Value.int IntKind.i64 0,Value.slice none 0 0,Value.slice none 0 0] 33)).alloc (Obj.cells #[Value.int IntKind.i64 0] 30)
def CY(w w':World)(u0 u1 u2 u3 e:Value):World:=((((w'.setCell ⟨w.heap.size,0,none⟩ u0).setCell ⟨w.heap.size,1,none⟩ u1).setCell ⟨w.heap.size,2,none⟩ u2).setCell ⟨w.heap.size,3,none⟩ u3).setCell ⟨w.heap.size+1,0,none⟩ e
def VY(w:World)(R:Ending->World->Prop):Ending->World->Prop:=fun e w'=>
 w'.heap[w.heap.size]? = (rp w).heap[w.heap.size]? /\w'.heap[w.heap.size+1]? = (rp w).heap[w.heap.size+1]? /\
 ((∃u0 u1 u2 u3:Value,u0.oneCell'=true/\u1.oneCell'=true/\u2.oneCell'=true/\u3.oneCell'=true/\e= .returned (.agg #[u0,u1,u2,u3])/\R (.returned (.tuple #[.agg #[u0,u1,u2,u3],.int .i64 0])) (CY w w' u0 u1 u2 u3 (.int .i64 0)))\/
  ∃n,e= .panicked [{ v:=.iface 30 (.int .i64 n),recovered:=false }]/\R (.returned (.tuple #[.agg #[.int .i64 0,.int .i64 0,.slice none 0 0,.slice none 0 0],.int .i64 n])) (CY w w' (.int .i64 0) (.int .i64 0) (.slice none 0 0) (.slice none 0 0) (.int .i64 n)))
set_option maxHeartbeats 4000000 in
def IK(g:FuncId)(x y:Array Value)(w:World)(R:Ending->World->Prop)(hfn:(Tryz.prog.funcs[g]?).any (fun fn=>fn.body.isSome&&!(fn.name== "runtime.NumGoroutine"))=true)(hc:Calls Tryz.prog g (x++y) (rp w) (VY w R)):Calls Tryz.prog 85 #[.func (.func g) x y] w R:=by
 have hmf:∀(fn:Fn)(first cap:Array Value)(w:World),(Instr.makeFunc fn first cap).run Tryz.prog w= .ok (.func fn first cap) w:=fun _ _ _ _=>rfl
 go_enter_defers Tryz.func85,Tryz.ntmps85
 go_wp2
 rw[iB hfn,Oper.upon_enter];refine hc.mono fun e w' h=>?_;obtain⟨k0,k1,h⟩:=h;have r0:w'.heap[w.heap.size]? = some (.cells #[Value.int IntKind.i64 0,Value.int IntKind.i64 0,Value.slice none 0 0,Value.slice none 0 0] 33):=by rw[k0];exact (Go.Av.alloc_old _ _ ZO).trans (heap_alloc_new w _)
 have r1:w'.heap[w.heap.size+1]? = some (.cells #[Value.int IntKind.i64 0] 30):=by rw[k1];have:=heap_alloc_new (w.alloc (Obj.cells #[Value.int IntKind.i64 0,Value.int IntKind.i64 0,Value.slice none 0 0,Value.slice none 0 0] 33)) (Obj.cells #[Value.int IntKind.i64 0] 30);rwa [World.size_alloc]at this
 have c0:w'.cell? ⟨w.heap.size,0,none⟩=some (.int .i64 0):=by simp[World.cell?,r0]
 have c1:w'.cell? ⟨w.heap.size,1,none⟩=some (.int .i64 0):=by simp[World.cell?,r0]
 have c2:w'.cell? ⟨w.heap.size,2,none⟩=some (.slice none 0 0):=by simp[World.cell?,r0]
 have c3:w'.cell? ⟨w.heap.size,3,none⟩=some (.slice none 0 0):=by simp[World.cell?,r0]
 have d0:w'.cell? ⟨w.heap.size+1,0,none⟩=some (.int .i64 0):=by simp[World.cell?,r1]
 have f0:w'.frozen? ⟨w.heap.size,0,none⟩=false:=by simp[World.frozen?,r0]
 have f1:w'.frozen? ⟨w.heap.size,1,none⟩=false:=by simp[World.frozen?,r0]
 have f2:w'.frozen? ⟨w.heap.size,2,none⟩=false:=by simp[World.frozen?,r0]
 have f3:w'.frozen? ⟨w.heap.size,3,none⟩=false:=by simp[World.frozen?,r0]
 have g0:w'.frozen? ⟨w.heap.size+1,0,none⟩=false:=by simp[World.frozen?,r1]
 clear k0 k1 r0 r1 hc hmf;rcases h with⟨u0,u1,u2,u3,o0,o1,o2,o3,rfl,hR⟩|⟨n,rfl,hR⟩
 ·simp only;rename_i K1 hK1 K hK;apply hK;clear hK;have hK1':=hK1;clear hK1;have s0:∀a m (w:World),(store a u0 m).run Tryz.prog w=stored Tryz.prog w a u0 m:=fun a m w=>run_store _ w a u0 m o0;have s1:∀a m (w:World),(store a u1 m).run Tryz.prog w=stored Tryz.prog w a u1 m:=fun a m w=>run_store _ w a u1 m o1;have s2:∀a m (w:World),(store a u2 m).run Tryz.prog w=stored Tryz.prog w a u2 m:=fun a m w=>run_store _ w a u2 m o2;have s3:∀a m (w:World),(store a u3 m).run Tryz.prog w=stored Tryz.prog w a u3 m:=fun a m w=>run_store _ w a u3 m o3
  go_wp2
  change Leaves _ _ _ _ _ _ _;refine leaves_cons (f:=146) (args:=#[.pointer (some ⟨w.heap.size,0,none⟩),.pointer (some ⟨w.heap.size+1,0,none⟩)]) ZO (by simp[go_sem]) ?_;refine (BS ⟨w.heap.size,0,none⟩ ⟨w.heap.size+1,0,none⟩ _).mono ?_;rintro e u' w'' ⟨rfl,rfl,rfl⟩;simp only[Leaves,settle];refine⟨_,?_,hR⟩;simp[results,Tryz.results85,go_sem,CY,World.cell?_setCell_same,c0,c1,c2,c3,d0]
 ·change Leaves _ _ _ _ _ _ _;refine leaves_cons (f:=146) (args:=#[.pointer (some ⟨w.heap.size,0,none⟩),.pointer (some ⟨w.heap.size+1,0,none⟩)]) ZO (by simp[go_sem]) ?_;refine (EK w.heap.size (w.heap.size+1) _ _ _ _ _ n w' c0 c1 c2 c3 d0 f0 f1 f2 f3 g0 ZL ZL).mono ?_;rintro e u' w'' ⟨rfl,rfl,rfl⟩;simp only[Leaves,settle];refine⟨_,?_,hR⟩;simp[results,Tryz.results85,go_sem,CY,World.cell?_setCell_same,c0,c1,c2,c3,d0]
end Go.Proofs.YtbndmpiddinalaaGreatDoor
