/- What the functions compute, part 1. Conditions: bounds. -/
import Derived.Ground.NamesProg
import Derived.Shelf.Lays
import Derived.Shelf.Strings.Search3
import Derived.Shelf.Strings.Fields
import Derived.Test.YtbndmpiddinalabGreatDoorProg
import Derived.Test.YtbndmpiddinalabGreatDoorLc
import Derived.Tactics
import Derived.Tactics2
import Derived.Defers
import Derived.Recover
set_option linter.defProp false
set_option linter.unusedSimpArgs false
set_option linter.unusedVariables false
namespace Go
theorem ZY{P:Prop}(h:P:=by kernel_rfl):P:=h
end Go
namespace Go.Proofs
open Go.Shelf
def Xh:Go.Shelf.Ren:=⟨fun|144=>143|143=>172|219=>181|217=>187|225=>188|224=>189|267=>190|266=>192|314=>193|n=>n,fun|9=>9|4=>4|3=>3|5=>5|46=>260|146=>263|51=>244|n=>n,fun|1=>3|n=>n⟩
def Xk:Go.Proofs.Lays.n144 Tryz.prog Xh:={
 mixed:=ZY
 f143:=Tryz.func172.trans (X4 some ZY)
 f144:=Tryz.func143.trans (X4 some ZY)
 f217:=Tryz.func187.trans (X4 some ZY)
 f219:=Tryz.func181.trans (X4 some ZY)
 f224:=Tryz.func189.trans (X4 some ZY)
 f225:=Tryz.func188.trans (X4 some ZY)
 f266:=Tryz.func192.trans (X4 some ZY)
 f267:=Tryz.func190.trans (X4 some ZY)
 f314:=Tryz.func193.trans (X4 some ZY)
 t3:=Tryz.underlying3
 a3:=Tryz.isAgg3
 z3:=Tryz.sizeOf3
 v3:=Tryz.zeroValue3
 t4:=Tryz.underlying4
 a4:=Tryz.isAgg4
 z4:=Tryz.sizeOf4
 v4:=Tryz.zeroValue4
 t5:=Tryz.underlying5
 a5:=Tryz.isAgg5
 z5:=Tryz.sizeOf5
 v5:=Tryz.zeroValue5
 t9:=Tryz.underlying9
 a9:=Tryz.isAgg9
 z9:=Tryz.sizeOf9
 v9:=Tryz.zeroValue9
 t46:=Tryz.underlying260
 a46:=Tryz.isAgg260
 z46:=Tryz.sizeOf260
 v46:=Tryz.zeroValue260
 t51:=Tryz.underlying244
 a51:=Tryz.isAgg244
 z51:=Tryz.sizeOf244
 v51:=Tryz.zeroValue244
 t146:=Tryz.underlying263
 a146:=Tryz.isAgg263
 z146:=Tryz.sizeOf263
 v146:=Tryz.zeroValue263
 g1:=by kernel_rfl }
def Xi:Go.Shelf.Ren:=⟨fun|157=>130|229=>168|199=>169|261=>180|311=>185|312=>186|n=>n,fun|9=>9|31=>31|3=>3|5=>5|4=>4|119=>233|0=>0|40=>235|152=>241|21=>21|154=>243|51=>244|141=>246|196=>251|193=>248|198=>254|49=>252|194=>249|201=>257|226=>261|46=>260|227=>262|n=>n,fun|0=>1|6=>2|n=>n⟩
def Xj:Go.Proofs.Lays.n157 Tryz.prog Xi:={
 mixed:=ZY
 f157:=Tryz.func130.trans (X4 some ZY)
 f199:=Tryz.func169.trans (X4 some ZY)
 f229:=Tryz.func168.trans (X4 some ZY)
 f261:=Tryz.func180.trans (X4 some ZY)
 f311:=Tryz.func185.trans (X4 some ZY)
 f312:=Tryz.func186.trans (X4 some ZY)
 t0:=Tryz.underlying0
 a0:=Tryz.isAgg0
 z0:=Tryz.sizeOf0
 v0:=Tryz.zeroValue0
 t3:=Tryz.underlying3
 a3:=Tryz.isAgg3
 z3:=Tryz.sizeOf3
 v3:=Tryz.zeroValue3
 t4:=Tryz.underlying4
 a4:=Tryz.isAgg4
 z4:=Tryz.sizeOf4
 v4:=Tryz.zeroValue4
 t5:=Tryz.underlying5
 a5:=Tryz.isAgg5
 z5:=Tryz.sizeOf5
 v5:=Tryz.zeroValue5
 t9:=Tryz.underlying9
 a9:=Tryz.isAgg9
 z9:=Tryz.sizeOf9
 v9:=Tryz.zeroValue9
 t21:=Tryz.underlying21
 a21:=Tryz.isAgg21
 z21:=Tryz.sizeOf21
 v21:=Tryz.zeroValue21
 t31:=Tryz.underlying31
 a31:=Tryz.isAgg31
 z31:=Tryz.sizeOf31
 v31:=Tryz.zeroValue31
 t40:=Tryz.underlying235
 a40:=Tryz.isAgg235
 z40:=Tryz.sizeOf235
 v40:=Tryz.zeroValue235
 t46:=Tryz.underlying260
 a46:=Tryz.isAgg260
 z46:=Tryz.sizeOf260
 v46:=Tryz.zeroValue260
 t49:=Tryz.underlying252
 a49:=Tryz.isAgg252
 z49:=Tryz.sizeOf252
 v49:=Tryz.zeroValue252
 t51:=Tryz.underlying244
 a51:=Tryz.isAgg244
 z51:=Tryz.sizeOf244
 v51:=Tryz.zeroValue244
 t119:=Tryz.underlying233
 a119:=Tryz.isAgg233
 z119:=Tryz.sizeOf233
 t141:=Tryz.underlying246
 a141:=Tryz.isAgg246
 z141:=Tryz.sizeOf246
 v141:=Tryz.zeroValue246
 t152:=Tryz.underlying241
 a152:=Tryz.isAgg241
 z152:=Tryz.sizeOf241
 v152:=Tryz.zeroValue241
 t154:=Tryz.underlying243
 a154:=Tryz.isAgg243
 z154:=Tryz.sizeOf243
 v154:=Tryz.zeroValue243
 t193:=Tryz.underlying248
 a193:=Tryz.isAgg248
 z193:=Tryz.sizeOf248
 v193:=Tryz.zeroValue248
 t194:=Tryz.underlying249
 a194:=Tryz.isAgg249
 z194:=Tryz.sizeOf249
 v194:=Tryz.zeroValue249
 t196:=Tryz.underlying251
 a196:=Tryz.isAgg251
 z196:=Tryz.sizeOf251
 v196:=Tryz.zeroValue251
 t198:=Tryz.underlying254
 a198:=Tryz.isAgg254
 z198:=Tryz.sizeOf254
 v198:=Tryz.zeroValue254
 t201:=Tryz.underlying257
 a201:=Tryz.isAgg257
 z201:=Tryz.sizeOf257
 v201:=Tryz.zeroValue257
 t226:=Tryz.underlying261
 a226:=Tryz.isAgg261
 z226:=Tryz.sizeOf261
 v226:=Tryz.zeroValue261
 t227:=Tryz.underlying262
 a227:=Tryz.isAgg262
 z227:=Tryz.sizeOf262
 v227:=Tryz.zeroValue262
 g0:=ZY
 g6:=by kernel_rfl }
end Go.Proofs
namespace Go.Proofs.YtbndmpiddinalabGreatDoor
open Go Go.Av Go.Av.Ap
abbrev CC:=FuncId->List AV->M AV
abbrev RR:=List AV->M AV
def lb{α β:Type}{m:M α}{f:α->M β}{fs:Nat->α->M β}(hf:cK f fs):eg (au m f) fun n=>au m (fs n):=eg.bnd (gp _) hf
abbrev vN(l:List Nat):List (Nat×Option Nat):=l.map fun x=>(x,none)
abbrev tF:TI:=TI.mk false 1 8 .func [] [.nilf] false
@[simp] def tE:Nat->List Nat->List (Nat×(Nat×Bool))
 |_,[]=>[]
 |i,x::l=>(i,(x,true))::tE (i+1) l
@[simp] abbrev tS(c s:Nat)(f:List Nat)(z:List AV)(b:Bool):TI:=TI.mk true c s .struct (tE 0 f) z b
noncomputable def tab:List (Nat×TI):=[
(0,(TI.mk false 1 0 .other [] [.any] false)),
(1,tF),
(2,(TI.mk false 1 8 (.int .i64) [] [.int .i64 0] false)),
(3,(TI.mk false 1 8 (.int .i64) [] [.int .i64 0] false)),
(4,(TI.mk false 1 1 .bool [] [.bool false] false)),
(5,(TI.mk false 1 1 (.int .u8) [] [.int .u8 0] false)),
(6,(TI.mk false 1 1 (.int .u8) [] [.int .u8 0] false)),
(7,(tS 4 24 [2,3,4,6] [.int .i64 0,.int .i64 0,.bool false,.int .u8 0] true)),
(8,(tS 4 24 [2,3,4,6] [.int .i64 0,.int .i64 0,.bool false,.int .u8 0] true)),
(9,(TI.mk false 1 16 .str [] [.str []] false)),
(10,(TI.mk false 1 16 .str [] [.str []] false)),
(11,(TI.mk false 1 16 .str [] [.str []] false)),
(12,(TI.mk false 1 8 (.int .u64) [] [.int .u64 0] false)),
(13,(tS 2 24 [9,12] [.str [],.int .u64 0] false)),
(14,(tS 2 24 [9,12] [.str [],.int .u64 0] false)),
(15,(TI.mk false 1 8 .ptr [] [.nilp] false)),
(16,(TI.mk false 1 8 .ptr [] [.nilp] false)),
(17,(TI.mk false 1 8 .ptr [] [.nilp] false)),
(18,(tS 1 8 [17] [.nilp] false)),
(19,(tS 1 8 [17] [.nilp] false)),
(20,(TI.mk false 1 16 .iface [] [.nili] false)),
(21,(TI.mk false 1 4 (.int .i32) [] [.int .i32 0] false)),
(22,(TI.mk false 1 24 (.slice 55) [] [.sl []] false)),
(23,(TI.mk false 1 24 (.slice 33) [] [.sl []] false)),
(24,(TI.mk false 1 24 (.slice 3) [] [.sl []] false)),
(25,tF),
(26,tF),
(27,tF),
(28,(TI.mk false 1 24 (.slice 61) [] [.sl []] false)),
(29,(TI.mk false 1 24 (.slice 46) [] [.sl []] false)),
(30,(TI.mk false 1 8 (.int .i64) [] [.int .i64 0] false)),
(31,(TI.mk false 1 24 (.slice 9) [] [.sl []] false)),
(32,(tS 4 64 [3,3,31,23] [.int .i64 0,.int .i64 0,.sl [],.sl []] true)),
(33,(tS 4 64 [3,3,31,23] [.int .i64 0,.int .i64 0,.sl [],.sl []] true)),
(34,(TI.mk false 1 24 (.slice 101) [] [.sl []] false)),
(35,(TI.mk false 1 24 (.slice 126) [] [.sl []] false)),
(36,(TI.mk true 8 144 .struct [(0,((30,true))),(1,((33,true))),(5,((34,true))),(6,((35,true))),(7,((28,true)))] [.int .i64 0,.int .i64 0,.int .i64 0,.sl [],.sl [],.sl [],.sl [],.sl []] true)),
(37,(TI.mk true 8 144 .struct [(0,((30,true))),(1,((33,true))),(5,((34,true))),(6,((35,true))),(7,((28,true)))] [.int .i64 0,.int .i64 0,.int .i64 0,.sl [],.sl [],.sl [],.sl [],.sl []] true)),
(38,(TI.mk true 13 248 .struct [(0,((22,true))),(1,((28,true))),(2,((29,true))),(3,((24,true))),(4,((37,true))),(12,((4,true)))] [.sl [],.sl [],.sl [],.sl [],.int .i64 0,.int .i64 0,.int .i64 0,.sl [],.sl [],.sl [],.sl [],.sl [],.bool false] true)),
(39,(TI.mk true 13 248 .struct [(0,((22,true))),(1,((28,true))),(2,((29,true))),(3,((24,true))),(4,((37,true))),(12,((4,true)))] [.sl [],.sl [],.sl [],.sl [],.int .i64 0,.int .i64 0,.int .i64 0,.sl [],.sl [],.sl [],.sl [],.sl [],.bool false] true)),
(40,(TI.mk false 1 0 .other [] [.any] false)),
(41,tF),
(42,tF),
(43,(TI.mk false 1 0 .other [] [.any] false)),
(44,tF),
(45,(tS 5 88 [9,9,3,23,23] [.str [],.str [],.int .i64 0,.sl [],.sl []] true)),
(46,(tS 5 88 [9,9,3,23,23] [.str [],.str [],.int .i64 0,.sl [],.sl []] true)),
(47,tF),
(48,tF),
(49,(TI.mk false 1 24 (.slice 154) [] [.sl []] false)),
(50,(TI.mk false 1 24 (.slice 108) [] [.sl []] false)),
(51,(TI.mk false 1 24 (.slice 110) [] [.sl []] false)),
(52,(tS 3 72 [49,50,50] [.sl [],.sl [],.sl []] true)),
(53,(tS 3 72 [49,50,50] [.sl [],.sl [],.sl []] true)),
(54,(tS 9 192 [9,31,49,50,51,4,53] [.str [],.sl [],.sl [],.sl [],.sl [],.bool false,.sl [],.sl [],.sl []] true)),
(55,(tS 9 192 [9,31,49,50,51,4,53] [.str [],.sl [],.sl [],.sl [],.sl [],.bool false,.sl [],.sl [],.sl []] true)),
(56,(TI.mk false 1 0 .other [] [.any] false)),
(57,tF),
(58,tF),
(59,tF),
(60,(tS 2 40 [9,23] [.str [],.sl []] true)),
(61,(tS 2 40 [9,23] [.str [],.sl []] true)),
(62,tF),
(63,tF),
(64,tF),
(65,tF),
(66,tF),
(67,tF),
(68,(TI.mk false 1 8 .ptr [] [.nilp] false)),
(69,(TI.mk false 1 0 .other [] [.any] false)),
(70,tF),
(71,(TI.mk false 1 0 .other [] [.any] false)),
(72,tF),
(73,(TI.mk false 1 24 (.slice 133) [] [.sl []] false)),
(74,(tS 4 56 [9,3,3,73] [.str [],.int .i64 0,.int .i64 0,.sl []] true)),
(75,(tS 4 56 [9,3,3,73] [.str [],.int .i64 0,.int .i64 0,.sl []] true)),
(76,(TI.mk true 7 96 .struct [(0,((3,true))),(1,((4,true))),(2,((75,true))),(6,((24,true)))] [.int .i64 0,.bool false,.str [],.int .i64 0,.int .i64 0,.sl [],.sl []] true)),
(77,(TI.mk true 7 96 .struct [(0,((3,true))),(1,((4,true))),(2,((75,true))),(6,((24,true)))] [.int .i64 0,.bool false,.str [],.int .i64 0,.int .i64 0,.sl [],.sl []] true)),
(78,(TI.mk false 1 0 .other [] [.any] false)),
(79,(TI.mk false 1 8 (.map 9 3) [] [.nilm] false)),
(80,(TI.mk false 1 8 (.map 84 77) [] [.nilm] false)),
(81,(TI.mk true 15 264 .struct [(0,((39,true))),(13,((79,true))),(14,((80,true)))] [.sl [],.sl [],.sl [],.sl [],.int .i64 0,.int .i64 0,.int .i64 0,.sl [],.sl [],.sl [],.sl [],.sl [],.bool false,.nilm,.nilm] true)),
(82,(TI.mk true 15 264 .struct [(0,((39,true))),(13,((79,true))),(14,((80,true)))] [.sl [],.sl [],.sl [],.sl [],.int .i64 0,.int .i64 0,.int .i64 0,.sl [],.sl [],.sl [],.sl [],.sl [],.bool false,.nilm,.nilm] true)),
(83,(tS 2 32 [9,9] [.str [],.str []] true)),
(84,(tS 2 32 [9,9] [.str [],.str []] true)),
(85,tF),
(86,tF),
(87,tF),
(88,(TI.mk false 1 0 .other [] [.any] false)),
(89,tF),
(90,tF),
(91,(TI.mk false 1 24 (.slice 141) [] [.sl []] false)),
(92,(TI.mk false 1 0 .other [] [.any] false)),
(93,tF),
(94,(TI.mk false 1 8 .ptr [] [.nilp] false)),
(95,(tS 2 32 [91,3] [.sl [],.int .i64 0] true)),
(96,(tS 2 32 [91,3] [.sl [],.int .i64 0] true)),
(97,(TI.mk false 1 0 .other [] [.any] false)),
(98,tF),
(99,tF),
(100,(tS 3 24 [3,3,3] [.int .i64 0,.int .i64 0,.int .i64 0] true)),
(101,(tS 3 24 [3,3,3] [.int .i64 0,.int .i64 0,.int .i64 0] true)),
(102,tF),
(103,tF),
(104,tF),
(105,(tS 2 32 [3,49] [.int .i64 0,.sl []] true)),
(106,(tS 2 32 [3,49] [.int .i64 0,.sl []] true)),
(107,(tS 6 96 [3,3,9,9,31,50] [.int .i64 0,.int .i64 0,.str [],.str [],.sl [],.sl []] true)),
(108,(tS 6 96 [3,3,9,9,31,50] [.int .i64 0,.int .i64 0,.str [],.str [],.sl [],.sl []] true)),
(109,(TI.mk true 12 184 .struct [(0,((9,true))),(1,((4,true))),(2,((49,true))),(3,((106,true))),(5,((3,true))),(6,((108,true)))] [.str [],.bool false,.sl [],.int .i64 0,.sl [],.int .i64 0,.int .i64 0,.int .i64 0,.str [],.str [],.sl [],.sl []] true)),
(110,(TI.mk true 12 184 .struct [(0,((9,true))),(1,((4,true))),(2,((49,true))),(3,((106,true))),(5,((3,true))),(6,((108,true)))] [.str [],.bool false,.sl [],.int .i64 0,.sl [],.int .i64 0,.int .i64 0,.int .i64 0,.str [],.str [],.sl [],.sl []] true)),
(111,tF),
(112,tF),
(113,tF),
(114,tF),
(115,(TI.mk false 1 24 (.slice 75) [] [.sl []] false)),
(116,tF),
(117,(TI.mk false 1 0 .other [] [.any] false)),
(118,tF),
(119,tF),
(120,tF),
(121,(TI.mk false 1 0 .other [] [.any] false)),
(122,tF),
(123,tF),
(124,tF),
(125,(tS 3 56 [9,9,23] [.str [],.str [],.sl []] true)),
(126,(tS 3 56 [9,9,23] [.str [],.str [],.sl []] true)),
(127,tF),
(128,(TI.mk false 1 8 .ptr [] [.nilp] false)),
(129,tF),
(130,tF),
(131,tF),
(132,(tS 5 72 [3,3,9,9,31] [.int .i64 0,.int .i64 0,.str [],.str [],.sl []] true)),
(133,(tS 5 72 [3,3,9,9,31] [.int .i64 0,.int .i64 0,.str [],.str [],.sl []] true)),
(134,tF),
(135,tF),
(136,tF),
(137,tF),
(138,tF),
(139,tF),
(140,(tS 4 40 [3,9,3,3] [.int .i64 0,.str [],.int .i64 0,.int .i64 0] true)),
(141,(tS 4 40 [3,9,3,3] [.int .i64 0,.str [],.int .i64 0,.int .i64 0] true)),
(142,(TI.mk false 1 0 .other [] [.any] false)),
(143,tF),
(144,(tS 2 16 [3,30] [.int .i64 0,.int .i64 0] true)),
(145,(tS 2 16 [3,30] [.int .i64 0,.int .i64 0] true)),
(146,(TI.mk false 1 0 .other [] [.any] false)),
(147,tF),
(148,tF),
(149,(TI.mk false 1 8 (.map 9 4) [] [.nilm] false)),
(150,tF),
(151,tF),
(152,tF),
(153,(tS 3 48 [9,106] [.str [],.int .i64 0,.sl []] true)),
(154,(tS 3 48 [9,106] [.str [],.int .i64 0,.sl []] true)),
(155,tF),
(156,tF),
(157,tF),
(158,tF),
(159,tF),
(160,tF),
(161,tF),
(162,tF),
(163,tF),
(164,(TI.mk false 1 8 .ptr [] [.nilp] false)),
(165,(tS 12 208 [22,24,3,3,37] [.sl [],.sl [],.int .i64 0,.int .i64 0,.int .i64 0,.int .i64 0,.int .i64 0,.sl [],.sl [],.sl [],.sl [],.sl []] true)),
(166,(tS 12 208 [22,24,3,3,37] [.sl [],.sl [],.int .i64 0,.int .i64 0,.int .i64 0,.int .i64 0,.int .i64 0,.sl [],.sl [],.sl [],.sl [],.sl []] true)),
(167,tF),
(168,(TI.mk false 1 0 .other [] [.any] false)),
(169,tF),
(170,tF),
(171,tF),
(172,tF),
(173,tF),
(174,tF),
(175,tF),
(176,tF),
(177,(TI.mk false 1 8 .ptr [] [.nilp] false)),
(178,(tS 3 56 [49,73,3] [.sl [],.sl [],.int .i64 0] true)),
(179,(tS 3 56 [49,73,3] [.sl [],.sl [],.int .i64 0] true)),
(180,tF),
(181,tF),
(182,tF),
(183,(TI.mk false 1 0 .other [] [.any] false)),
(184,tF),
(185,tF),
(186,tF),
(187,tF),
(188,(tS 3 56 [3,31,23] [.int .i64 0,.sl [],.sl []] true)),
(189,(tS 3 56 [3,31,23] [.int .i64 0,.sl [],.sl []] true)),
(190,tF),
(191,tF),
(192,tF),
(193,tF),
(194,tF),
(195,tF),
(196,tF),
(197,tF),
(198,tF),
(199,tF),
(200,tF),
(201,tF),
(202,tF),
(203,(TI.mk true 14 224 (.array 14 9) [] (List.replicate 14 (.str [])) false)),
(204,tF),
(205,tF),
(206,tF),
(207,tF),
(208,tF),
(209,tF),
(210,tF),
(211,tF),
(212,tF),
(213,tF),
(214,tF),
(215,tF),
(216,tF),
(217,tF),
(218,tF),
(219,tF),
(220,tF),
(221,tF),
(222,tF),
(223,tF),
(224,tF),
(225,tF),
(226,tF),
(227,(TI.mk false 1 0 .other [] [.any] false)),
(228,tF),
(229,(tS 3 32 [9,3,3] [.str [],.int .i64 0,.int .i64 0] true)),
(230,(tS 3 32 [9,3,3] [.str [],.int .i64 0,.int .i64 0] true)),
(231,(TI.mk false 1 24 (.slice 230) [] [.sl []] false)),
(232,tF),
(233,(TI.mk true 256 256 (.array 256 5) [] (List.replicate 256 (.int .u8 0)) false)),
(234,tF),
(235,tF),
(236,tF),
(237,tF),
(238,tF),
(239,tF),
(240,tF),
(241,(TI.mk false 1 24 (.slice 243) [] [.sl []] false)),
(242,(tS 2 16 [3,3] [.int .i64 0,.int .i64 0] true)),
(243,(tS 2 16 [3,3] [.int .i64 0,.int .i64 0] true)),
(244,(TI.mk false 1 4 (.int .u32) [] [.int .u32 0] false)),
(245,tF),
(246,(TI.mk false 1 8 .ptr [] [.nilp] false)),
(247,tF),
(248,(TI.mk false 1 24 (.slice 254) [] [.sl []] false)),
(249,(TI.mk false 1 24 (.slice 257) [] [.sl []] false)),
(250,(tS 3 56 [248,249,3] [.sl [],.sl [],.int .i64 0] true)),
(251,(tS 3 56 [248,249,3] [.sl [],.sl [],.int .i64 0] true)),
(252,(TI.mk false 1 2 (.int .u16) [] [.int .u16 0] false)),
(253,(tS 3 6 [252,252,252] [.int .u16 0,.int .u16 0,.int .u16 0] true)),
(254,(tS 3 6 [252,252,252] [.int .u16 0,.int .u16 0,.int .u16 0] true)),
(255,tF),
(256,(tS 3 12 [244,244,244] [.int .u32 0,.int .u32 0,.int .u32 0] true)),
(257,(tS 3 12 [244,244,244] [.int .u32 0,.int .u32 0,.int .u32 0] true)),
(258,tF),
(259,tF),
(260,(TI.mk false 1 8 (.int .u64) [] [.int .u64 0] false)),
(261,(TI.mk false 1 8 .ptr [] [.nilp] false)),
(262,(TI.mk false 1 8 .ptr [] [.nilp] false)),
(263,(TI.mk false 1 0 .other [] [.any] false)),
(264,tF),
(265,(tS 4 40 [17,17,17,9] [.nilp,.nilp,.nilp,.str []] false)),
(266,(tS 4 40 [17,17,17,9] [.nilp,.nilp,.nilp,.str []] false)),
(267,(TI.mk true 0 0 (.array 0 16) [] [] false)),
(268,(TI.mk true 0 0 .struct [(0,((267,false)))] [] false)),
(269,(TI.mk true 0 0 .struct [(0,((267,false)))] [] false)),
(270,tF),
(271,(TI.mk false 1 1 (.int .u8) [] [.int .u8 0] false)),
(272,(TI.mk false 1 1 (.int .u8) [] [.int .u8 0] false)),
(273,tF),
(274,(TI.mk false 1 8 .ptr [] [.nilp] false)),
(275,(TI.mk false 1 4 (.int .i32) [] [.int .i32 0] false)),
(276,(TI.mk false 1 4 (.int .i32) [] [.int .i32 0] false)),
(277,(tS 11 48 [12,12,244,271,5,5,272,273,274,275,276] [.int .u64 0,.int .u64 0,.int .u32 0,.int .u8 0,.int .u8 0,.int .u8 0,.int .u8 0,.nilf,.nilp,.int .i32 0,.int .i32 0] false)),
(278,(tS 11 48 [12,12,244,271,5,5,272,273,274,275,276] [.int .u64 0,.int .u64 0,.int .u32 0,.int .u8 0,.int .u8 0,.int .u8 0,.int .u8 0,.nilf,.nilp,.int .i32 0,.int .i32 0] false)),
(279,(TI.mk false 1 8 .other [] [.nilp] false))]
def Dy:List (Nat×TI)->Nat->Option TI
 |[],_=>none
 |(k,x):: r,t=>bif Nat.beq k t then some x else Dy r t
noncomputable def T:TT:=Dy tab
def T9:Ann:={kinds:=[(17,.S)],nl:=[79,85,101,110,121,132,144,155,165,169,175,184,187,198,204,208,214,218,222,228,234,238,244,248],lw:=[14,17],loops:=[(0,{vals:=vN [5,13,15,16,15000,15001,15002,15003,15004,15005,15006,15007,15008,15009,15010,15011,15012],locs:=[(14,15000,0)],lbs:=[(15000,13)]}),(2,{vals:=vN [5,13,15,16,17,19,22,15000,15001,15002,15003,15004,15005,15006,15007,15008,15009,15010,15011,15012],locs:=[(14,15000,0)],lbs:=[(15000,13)]})]}
def Ua:Ann:={kinds:=[(1,.S),(6,.S),(8,.S),(10,.S),(12,.S),(14,.S),(16,.S)],no:=[26,28,32,113,138,144],nl:=[25,37,42,47,62,67,72,75,106,110,120,124,127,132,135,143,149,152,155,163,167],lw:=[1,6,8,10,12,14,16]}
def Ub:Ann:={nl:=[17],loops:=[(0,{vals:=vN [0,3]})]}
def Uc:Ann:={nl:=[20,28],loops:=[(0,{vals:=vN [0,1,5]})]}
def Ud:Ann:={kinds:=[(15,.S)],hl:=[39,76],nl:=[39,52,69,76],lw:=[10,15]}
def Ue:Ann:={hl:=[18,22,28],nl:=[7,18,22,28],lw:=[2]}
def Uf:Ann:={nl:=[30,36,44,49,57,66,69,74,77,88],joins:=[(1000003,{vals:=vN [0,1,2,8,9,10,11]})],loops:=[(0,{vals:=vN [0,1,2,8,9,10]}),(2,{vals:=vN [0,1,2,8,9,10,11]})]}
def O8:Ann:={nl:=[20,24],loops:=[(0,{vals:=vN [0,1,5]})]}
def O9:Ann:={iso:=false,kinds:=[(8,.H),(9,.S),(25,.H)],hl:=[37],hb:=[8,24],nl:=[27,37],lw:=[2,9]}
def Pa:Ann:={lw:=[2]}
def Pb:Ann:={hl:=[31,39,44,48],nl:=[9,31,39,44,48],lw:=[4],joins:=[(1000000,{vals:=vN [6,5000,5001,5002,5003,5004,5005,5006,5007,5008,5009,5010,5011,5012],locs:=[(4,5000,0)],lbs:=[(5000,13)]})],loops:=[(0,{vals:=vN [6,24,25,5000,5001,5002,5003,5004,5005,5006,5007,5008,5009,5010,5011,5012],locs:=[(4,5000,0)],lbs:=[(5000,13)]})]}
def Pf:Ann:={nl:=[7,9,13,16,22,24,30,36,39,41,44,47,49,53,55],loops:=[(0,{vals:=vN [2,3,5]})]}
def Ph:Ann:={lw:=[12]}
def Pi:Ann:={nl:=[20,24],loops:=[(0,{vals:=vN [0,1,5]})]}
def Pj:Ann:={nl:=[6]}
def Pk:Ann:={kinds:=[(4,.S)],nl:=[8,18,21,23,28,34,40,46,56,59,63,68,74,80,85,91,97,103],lw:=[4],loops:=[(0,{vals:=vN [1,3]}),(2,{vals:=vN [1,5]})]}
def Pl:Ann:={nl:=[9,21,24],loops:=[(0,{vals:=vN [1,2,5,6]})]}
def Pm:Ann:={iso:=false,kinds:=[(6,.S),(10,.S),(12,.S),(14,.S),(23,.H)],hl:=[35,45,85],hb:=[22],nl:=[30,35,37,45,47,55,56,66,67,74,76,85,87,89,93,97,98],lw:=[6,10,12,14],loops:=[(0,{vals:=vN [0,4,24,25,26]}),(2,{vals:=vN [0,4,50,51,52]}),(4,{vals:=vN [0,4,60,61,62]}),(6,{vals:=vN [0,4,11,12,60,61,62,68,69,70]})]}
def Pn:Ann:={kinds:=[(7,.S),(10,.S),(11,.S)],hb:=[8,26],no:=[52,58],nl:=[23,25,28,31,35,40,42,51],lw:=[7,8,10,11,54],loops:=[(0,{vals:=[(5,some 2),(18,none),(19,none),(20,none)]}),(2,{vals:=[(5,some 2),(18,none),(19,none),(20,none),(35,none),(36,none),(37,none),(9000,none),(9001,some 4)],locs:=[(8,9000,0)],lbs:=[(9000,2)]})],nils:=[(8,[1])]}
def Po:Ann:={}
def Dd:Ann:={}
def Pp:Ann:={iso:=false,hl:=[16,45],ha:=[25,39,53],hb:=[51],no:=[24,38,52],nl:=[9,16,20,34,45,49],joins:=[(9,{vals:=vN [0,1,3,6]})],loops:=[(0,{vals:=vN [0,1,3,6]})]}
def De:Ann:={iso:=false,hl:=[7],ha:=[5,7],hb:=[2]}
def Pq:Ann:={iso:=false,kinds:=[(6,.S),(9,.S)],nl:=[13,21,23,29,32,36,41,46,49,54,60,62,68,74,82,88,92,96,101,107],lw:=[6,9],joins:=[(94,{vals:=vN [1,4,9,10,82,83,84]})],loops:=[(0,{vals:=vN [1,4,82,83,84]})]}
def Pr:Ann:={iso:=false,kinds:=[(3,.S)],hl:=[10,14,18,26,32,43,47,51],nl:=[10,14,18,26,28,32,37,43,47,51,55],lw:=[3]}
def Ps:Ann:={nl:=[6,8,12,14,19,21,26,28]}
def Pt:Ann:={no:=[25,42],lw:=[7,39],loops:=[(0,{vals:=[(0,none),(5,some 4),(6,none)]})]}
def Pu:Ann:={iso:=false,nl:=[2]}
def Pv:Ann:={iso:=false,hl:=[28,52],hb:=[3],no:=[37,72,79,98],nl:=[28,52],lw:=[2,7,12,39,62,74,81,100,103,107,116,124],joins:=[(102,{vals:=[(0,none),(3000,none),(3001,none),(3002,none),(3003,none),(3004,none),(3005,none),(3006,none),(3007,none),(3008,none),(4000,none),(4001,some 1),(4002,some 3),(4003,some 6),(4004,some 12),(4005,none),(4006,none),(4007,none),(4008,none)],locs:=[(2,3000,0),(3,4000,0)],lbs:=[(3000,9),(4000,9)]})],loops:=[(0,{vals:=[(0,none),(4,none),(5,none),(6,none),(3000,none),(3001,none),(3002,none),(3003,none),(3004,none),(3005,none),(3006,none),(3007,none),(3008,none),(4000,none),(4001,some 1),(4002,some 3),(4003,some 6),(4004,some 12),(4005,none),(4006,none),(4007,none),(4008,none)],locs:=[(2,3000,0),(3,4000,0)],lbs:=[(3000,9),(4000,9)]}),(2,{vals:=[(0,none),(5,none),(6,none),(3000,none),(3001,none),(3002,none),(3003,none),(3004,none),(3005,none),(3006,none),(3007,none),(3008,none),(4000,none),(4001,some 1),(4002,some 3),(4003,some 6),(4004,some 12),(4005,none),(4006,none),(4007,none),(4008,none)],locs:=[(2,3000,0),(3,4000,0)],lbs:=[(3000,9),(4000,9)]}),(4,{vals:=[(0,none),(6,none),(3000,none),(3001,none),(3002,none),(3003,none),(3004,none),(3005,none),(3006,none),(3007,none),(3008,none),(4000,none),(4001,some 1),(4002,some 3),(4003,some 6),(4004,some 12),(4005,none),(4006,none),(4007,none),(4008,none)],locs:=[(2,3000,0),(3,4000,0)],lbs:=[(3000,9),(4000,9)]})],nils:=[(3,[1,2,3,4])]}
def Pw:Ann:={nl:=[21,26,33,38,46,51],loops:=[(0,{vals:=vN [0,1,5]})]}
def Px:Ann:={nl:=[21,26,33,38],loops:=[(0,{vals:=vN [0,1,5]})]}
def Py:Ann:={kinds:=[(16,.S),(17,.S),(18,.S),(21,.S),(45,.H)],hl:=[81,110],ha:=[89],hb:=[44],no:=[88],nl:=[46,50,51,59,62,66,75,76,77,81,83,85,95,96,107,110],lw:=[14,16,17,18,21],loops:=[(0,{vals:=vN [11,16,17,18,70,71,72,15000,15001,15002,15003,15004,15005,15006,15007],locs:=[(14,15000,0)],lbs:=[(15000,8)]})]}
def Pz:Ann:={nl:=[18,26],loops:=[(0,{vals:=vN [0,3]})]}
def PC:Ann:={nl:=[3,7]}
def PD:Ann:={nl:=[3,7]}
def PE:Ann:={nl:=[17],loops:=[(0,{vals:=vN [0,3]})]}
def PF:Ann:={kinds:=[(8,.S)],nl:=[13,18,32,37,40,44,50,56,62,68,74,77,82,88,94,100,102,109,112,115,121,126,133],lw:=[8],joins:=[(116,{vals:=vN [1,9,10]})],loops:=[(0,{vals:=vN [1,3,13,14,15]}),(2,{vals:=vN [1,6,32,33,34]})]}
def PG:Ann:={kinds:=[(5,.S),(9,.S),(26,.H)],hl:=[57,61],hb:=[25],no:=[37,63],nl:=[10,14,19,21,23,28,33,36,42,50,52,57,61],lw:=[5,9],loops:=[(0,{vals:=[(1,none),(3,some 4),(14,none),(15,none),(16,none)]}),(2,{vals:=[(1,none),(3,some 4),(5,none),(6,none),(7,some 1),(14,none),(15,none),(16,none),(28,none),(29,none),(30,none)]})]}
def PH:Ann:={kinds:=[(6,.S)],hl:=[83,98,120,127,141,145],ha:=[43],no:=[135],nl:=[14,19,24,29,31,36,41,45,51,52,53,68,73,76,83,88,92,98,102,109,113,120,127,141,145],lw:=[6],so:=[70],loops:=[(0,{vals:=vN [1,4,45,46,47]}),(2,{vals:=[(1,none),(4,none),(7,some 1)]}),(4,{vals:=[(1,none),(4,none),(7,some 1),(8,none),(9,none),(10,none),(104,none),(105,none),(106,none)]})]}
def Df:Ann:={}
def PI:Ann:={kinds:=[(4,.S)],nl:=[14],lw:=[4],loops:=[(0,{vals:=vN [0,8,9,10]})]}
def PK:Ann:={kinds:=[(8,.S),(20,.H)],hb:=[19],nl:=[9,11,15],lw:=[6,8]}
def PL:Ann:={}
def PM:Ann:={nl:=[3]}
def PN:Ann:={nl:=[3]}
def PO:Ann:={lw:=[2]}
def PP:Ann:={kinds:=[(6,.S)],nl:=[18,20,25,29,34],lw:=[6],loops:=[(0,{vals:=vN [0,12,13,14]})]}
def PQ:Ann:={iso:=false,kinds:=[(7,.S),(10,.S)],hl:=[16],nl:=[16,18,20,29,34,37,43,46,51,53,55,62,67,71,79,81,84,86,90,92,97,102,106],lw:=[7,10],joins:=[(88,{vals:=vN [2,10,11]})]}
def PS:Ann:={iso:=false,kinds:=[(1,.L)],hl:=[36,41],nl:=[36,41],lw:=[2,8,12,16,20,61,63,65],loops:=[(0,{vals:=vN [23,24,2000,2001,2002,2003,2004,2005,2006,2007,2008,2009,2010,2011,2012,3000,3001,3002,3003,3004,3005,3006,3007,3008,3009,3010,3011,3012],locs:=[(1,2000,0),(2,3000,0)],lbs:=[(2000,13),(3000,13)]})],ords:=[(9,[0,1,2,3,4,5,7,8,9,10,6,11,12,13,14,15,16,17]),(11,[0,1,2,4,5,6,8,9,10,3,12,13,7,11,14,15,16,17,18,19,20])]}
def PT:Ann:={iso:=false,hl:=[7,12],nl:=[7,12]}
def PU:Ann:={iso:=false,hl:=[8,19,24],nl:=[8,12,19,24,33],ords:=[(4,[0,2,1,3])]}
def PV:Ann:={iso:=false,kinds:=[(7,.S),(8,.S)],hl:=[36,40,47,53,71,95],fz:=[95],nl:=[10,13,19,26,36,38,40,47,49,53,63,71,73,78,82,88,92,97,102,106,112,119,127],lw:=[7,8],lm:=[(47,5,3)],cm:=[(51,5,3)],joins:=[(114,{vals:=vN [0,1,5,10,114]}),(121,{vals:=vN [0,1,5,121]})],ords:=[(23,[0,1,3,4,5,6,10,2,7,8,9,11])]}
def PW:Ann:={iso:=false,hl:=[23],nl:=[18,23]}
def PX:Ann:={nl:=[20,24],loops:=[(0,{vals:=vN [0,1,5]})]}
def PY:Ann:={loops:=[(0,{vals:=vN [0,1,5]})]}
def PZ:Ann:={}
def P0:Ann:={lw:=[2],loops:=[(1,{vals:=vN [0,43,44,3000,3001,3002,3003],locs:=[(2,3000,0)],lbs:=[(3000,4)]})]}
def P1:Ann:={iso:=false}
def P2:Ann:={iso:=false,hl:=[10,17,21],nl:=[10,17,21,25]}
def P3:Ann:={iso:=false}
def P4:Ann:={iso:=false}
def P5:Ann:={iso:=false}
def P6:Ann:={iso:=false,hb:=[3,16],no:=[55],nl:=[40],lw:=[2,3,5,51,57],joins:=[(21,{vals:=[(0,none),(3000,none),(3001,none),(4000,none),(4001,some 3)],locs:=[(2,3000,0),(3,4000,0)],lbs:=[(3000,2),(4000,2)]}),(31,{vals:=[(0,none),(4,none),(3000,none),(3001,none),(4000,none),(4001,some 3)],locs:=[(2,3000,0),(3,4000,0)],lbs:=[(3000,2),(4000,2)]})],loops:=[(1,{vals:=[(0,none),(3000,none),(3001,none),(4000,none),(4001,some 3)],locs:=[(2,3000,0),(3,4000,0)],lbs:=[(3000,2),(4000,2)]})],nils:=[(3,[1])]}
def P7:Ann:={iso:=false,hl:=[17],nl:=[17]}
def P8:Ann:={kinds:=[(5,.S)],nl:=[7,12,15],lw:=[5],loops:=[(0,{vals:=vN [3,7,8,9]})]}
def P9:Ann:={iso:=false,kinds:=[(5,.S)],nl:=[9,14],lw:=[4,5]}
def Qa:Ann:={iso:=false,nl:=[38],lw:=[4,5,17,20,23,47,59],joins:=[(29,{vals:=vN [0,6,5000,5001,5002,5003,5004,5005,5006,5007,5008,5009,5010,5011,6000,6001,6002,6003,6004,6005,6006,6007,6008,6009,6010,6011],locs:=[(4,5000,0),(5,6000,0)],lbs:=[(5000,12),(6000,12)]})],loops:=[(0,{vals:=vN [0,33,34,35,5000,5001,5002,5003,5004,5005,5006,5007,5008,5009,5010,5011,6000,6001,6002,6003,6004,6005,6006,6007,6008,6009,6010,6011],locs:=[(4,5000,0),(5,6000,0)],lbs:=[(5000,12),(6000,12)]})]}
def Qb:Ann:={iso:=false,hl:=[12],nl:=[12]}
def Qc:Ann:={iso:=false,no:=[30],lw:=[7,27],joins:=[(14,{vals:=[(0,none),(1,none),(5,some 3),(6,none)]})],loops:=[(0,{vals:=[(0,none),(1,none),(5,some 3),(6,none)]})]}
def Qd:Ann:={iso:=false,no:=[20,27],loops:=[(0,{vals:=[(0,none),(2,none),(7,some 6),(14,none),(15,none)]})]}
def Qe:Ann:={iso:=false}
def Qf:Ann:={iso:=false,hl:=[6,10],nl:=[6,10,12],lw:=[2]}
def Qg:Ann:={}
def Qh:Ann:={iso:=false,hl:=[8],nl:=[8]}
def Qi:Ann:={iso:=false,hl:=[16],nl:=[16,20,30],lw:=[6]}
def Qj:Ann:={nl:=[3]}
def Qk:Ann:={iso:=false,nl:=[5,6,7,8],lw:=[4]}
def Ql:Ann:={iso:=false,kinds:=[(11,.S),(12,.S)],hl:=[16,26,30,67,79],ha:=[41],no:=[40],nl:=[16,20,26,30,34,36,48,54,57,61,67,74,79,83],lw:=[8,9,11,12],joins:=[(20,{vals:=vN [0,1,3,6,9000,9001,9002,9003],locs:=[(8,9000,0)],lbs:=[(9000,4)]})],loops:=[(0,{vals:=vN [0,3,6,48,49,50,9000,9001,9002,9003,10000,10001,10002],locs:=[(8,9000,0),(9,10000,0)],lbs:=[(9000,4),(10000,3)]})]}
def Qm:Ann:={nl:=[9,21,25],loops:=[(0,{vals:=vN [1,2,5,6]})]}
def Qn:Ann:={nl:=[6,12,16,21,25],loops:=[(0,{vals:=vN [1,3]})]}
def Qo:Ann:={nl:=[9,21,24],loops:=[(0,{vals:=vN [1,2,5,6]})]}
def Qp:Ann:={nl:=[7,17,20,25,31,34,38,43,49],loops:=[(0,{vals:=vN [1,3]}),(2,{vals:=vN [1,4]})]}
def Qq:Ann:={}
def Qr:Ann:={kinds:=[(7,.S)],nl:=[14,17,21,27,33],lw:=[7],loops:=[(0,{vals:=vN [0,1,5,9,10,11]})]}
def Qs:Ann:={nl:=[3]}
def Qt:Ann:={nl:=[3]}
def Qu:Ann:={kinds:=[(6,.S)],nl:=[12,13],lw:=[6],loops:=[(0,{vals:=vN [0,1,7,8,9]})]}
def Qv:Ann:={iso:=false,hl:=[125],no:=[141],nl:=[8,11,16,23,30,38,47,55,57,62,64,73,75,82,84,91,93,98,100,102,104,111,113,125,134,136,140],ords:=[(15,[0,1,2,3,4,5,7,6,8]),(18,[0,1,3,4,5,6,7,2,8]),(26,[0,1,2,3,4,5,7,8,9,6,10,11])]}
def Qw:Ann:={iso:=false,hl:=[9,18],ha:=[12],no:=[11],nl:=[9,10,18]}
def Qx:Ann:={nl:=[11,13,15,17,19,38,49],joins:=[(30,{vals:=vN [2,5,6,7,8,9,19,30]}),(41,{vals:=vN [2,5,6,7,8,9,19,41]}),(53,{vals:=vN [5,6,7,8,9,19,53]}),(106,{vals:=vN [5,6,7,8,9,106]}),(1000000,{vals:=vN [5,6,7,8,9]})]}
def Qy:Ann:={nl:=[5,25,30],joins:=[(6,{vals:=vN [1,5,6]}),(11,{vals:=vN [1,5,11]}),(17,{vals:=vN [1,5,17]})]}
def Qz:Ann:={kinds:=[(5,.S)],no:=[19,26,29],nl:=[7,10,12,18,25],lw:=[5]}
def QA:Ann:={}
def QB:Ann:={nl:=[5,7]}
def Ll:Ann:={nl:=[3]}
def Lm:Ann:={iso:=false,nl:=[5,6,7,9],lw:=[4]}
def Lo:Ann:={iso:=false,kinds:=[(9,.S)],hl:=[14,20],nl:=[14,20,25,35,42,46,51,55,60,66,74,77,79,82,85,94,96,98,100,103,105,107,114,116,118,121,125,129,131,133,139,141,143,150,152,154,157,159,161,164,166,168,173,175,177,179,181,185,187,192,193,198,200,202,205,207,210,218,221,225,226,229,230],lw:=[6,9],joins:=[(87,{vals:=vN [0,4,5,42,87,7000,7001,7002,7003],locs:=[(6,7000,0)],lbs:=[(7000,4)]}),(110,{vals:=vN [0,4,5,42,110,7000,7001,7002,7003],locs:=[(6,7000,0)],lbs:=[(7000,4)]}),(1000000,{vals:=vN [0,4,5,7000,7001,7002,7003],locs:=[(6,7000,0)],lbs:=[(7000,4)]})],loops:=[(1,{vals:=vN [0,4,5,8,7000,7001,7002,7003],locs:=[(6,7000,0)],lbs:=[(7000,4)]})],ords:=[(23,[0,1,2,3,4,5,6,7,9,10,11,12,13,14,8,15,16,17]),(26,[0,1,2,3,4,5,7,8,9,6,10]),(36,[0,1,2,3,4,5,6,7,8,9,12,13,14,15,10,11,16,17]),(40,[0,1,2,3,4,5,7,6,8])]}
def Lp:Ann:={nl:=[15],loops:=[(0,{vals:=vN [0,1,7,8]})]}
def Lq:Ann:={nl:=[5,8,12,16,21,27,31,36,41,45,50,53,59,65,70]}
def Lr:Ann:={iso:=false,kinds:=[(5,.S)],hl:=[11],ha:=[20],hb:=[3],no:=[19],nl:=[11,14,16],lw:=[5],loops:=[(0,{vals:=vN [3,6,7,8]})]}
def xZ:Ann:={iso:=false,hl:=[7],ha:=[5,7],hb:=[2]}
def ya:Ann:={iso:=false,hl:=[7],ha:=[5,7],hb:=[2]}
def yb:Ann:={iso:=false,hl:=[7],ha:=[5,7],hb:=[2]}
def Ls:Ann:={iso:=false,hl:=[7],ha:=[11],no:=[10],nl:=[7,8],sl1:=[12],sl0:=[14]}
def Lt:Ann:={lw:=[2]}
def Lu:Ann:={iso:=false,hl:=[10,17,25],hb:=[27],nl:=[10,17,25]}
def Lv:Ann:={iso:=false,hl:=[8,12],nl:=[8,12]}
def yc:Ann:={}
def Lw:Ann:={kinds:=[(5,.S)],nl:=[7,12,14],lw:=[5],loops:=[(0,{vals:=vN [3,7,8,9]})]}
def Lx:Ann:={iso:=false,kinds:=[(8,.S)],hl:=[17,22,55],nl:=[11,17,22,25,35,39,46,48,55,60,63],lw:=[8],joins:=[(13,{vals:=vN [0,1,5,7]})]}
def Ly:Ann:={iso:=false,hl:=[12,16,20,24,31,48],nl:=[12,16,20,24,27,31,35,41,46,48]}
def Lz:Ann:={iso:=false,kinds:=[(7,.S)],hl:=[13,56,63,71,82],ha:=[90],no:=[89],nl:=[13,15,17,21,25,29,33,37,41,51,56,63,65,71,82,84,86,103,111,114],lw:=[7],joins:=[(19,{vals:=vN [0,1,5,7,8,19]}),(58,{vals:=vN [0,1,5,7,9]})]}
def LA:Ann:={iso:=false,kinds:=[(6,.S),(7,.S)],hl:=[13,16],nl:=[13,16,18,22,32,37,46,48,56,58,66,68,76,78,86,88],lw:=[6,7]}
def LC:Ann:={}
def LD:Ann:={}
def LF:Ann:={}
def LG:Ann:={}
def LH:Ann:={loops:=[(0,{vals:=vN [0,4,30,31]})]}
def LI:Ann:={}
def LJ:Ann:={iso:=false}
def LK:Ann:={iso:=false}
def LL:Ann:={iso:=false,nl:=[8]}
def LM:Ann:={iso:=false,kinds:=[(9,.S)],hl:=[67],no:=[25,79],nl:=[32,35,37,67],lw:=[4,5,7,9],loops:=[(0,{vals:=vN [0,1,6,5000,5001,5002,5003,5004,5005,6000,6001,6002,6003,6004,6005],locs:=[(4,5000,0),(5,6000,0)],lbs:=[(5000,6),(6000,6)]}),(2,{vals:=vN [0,1,6,5000,5001,5002,5003,5004,5005,6000,6001,6002,6003,6004,6005],locs:=[(4,5000,0),(5,6000,0)],lbs:=[(5000,6),(6000,6)]}),(4,{vals:=vN [0,1,6,27,28,29,5000,5001,5002,5003,5004,5005,6000,6001,6002,6003,6004,6005,8000,8001,8002],locs:=[(4,5000,0),(5,6000,0),(7,8000,0)],lbs:=[(5000,6),(6000,6),(8000,3)]})],ords:=[(3,[0,2,3,1,4,5])]}
def LN:Ann:={kinds:=[(5,.S)],nl:=[7,12,14],lw:=[5],loops:=[(0,{vals:=vN [3,7,8,9]})]}
def LO:Ann:={}
def LP:Ann:={iso:=false}
def LQ:Ann:={kinds:=[(8,.S),(9,.S)],nl:=[21,25,27,28],lw:=[8,9],loops:=[(0,{vals:=vN [1,2,15,16,17]})]}
def LR:Ann:={nl:=[6,8,12,15,21]}
def LS:Ann:={nl:=[3]}
def LU:Ann:={nl:=[15],loops:=[(0,{vals:=vN [0,1,7,8]})]}
def LV:Ann:={nl:=[5,6]}
def LW:Ann:={nl:=[15],loops:=[(0,{vals:=vN [0,1,7,8]})]}
def LX:Ann:={nl:=[5,6]}
def LY:Ann:={}
def LZ:Ann:={no:=[13,19],nl:=[8,10,16,18],lw:=[6]}
def L4:Ann:={kinds:=[(6,.S)],nl:=[11,16,21,27,31,37,43,45,53,55,60,66],lw:=[6],loops:=[(0,{vals:=vN [1,2,37,38,39]})]}
def L5:Ann:={kinds:=[(5,.S),(8,.S)],nl:=[13,18,22,31,37,39,44,46,51,53,58,61,66,71,76,77],lw:=[5,8],loops:=[(0,{vals:=vN [1,71,72,73]})]}
def L6:Ann:={lw:=[2]}
def L8:Ann:={nl:=[16],loops:=[(0,{vals:=vN [0,1,5]})]}
def L9:Ann:={iso:=false,hl:=[8],nl:=[8]}
def Ma:Ann:={iso:=false,hl:=[23,28,39,44],nl:=[14,23,28,33,39,44]}
def Mb:Ann:={iso:=false,kinds:=[(7,.S)],nl:=[13,15],lw:=[7],loops:=[(0,{vals:=vN [0,2,8,9,10]})]}
def Mc:Ann:={iso:=false,nl:=[6,28,34,39,41,43,49,53],lw:=[4]}
def Md:Ann:={nl:=[11,23],loops:=[(0,{vals:=vN [0,5,6,7]})]}
def Me:Ann:={joins:=[(4,{vals:=vN [3,4]}),(9,{vals:=vN [3,9]}),(14,{vals:=vN [3,14]}),(25,{vals:=[(25,none)]})]}
def Mf:Ann:={lw:=[2]}
def Mg:Ann:={lw:=[2]}
def Mh:Ann:={iso:=false,nl:=[10,12,16,21,23,27,31,39,41,47,49,55,57,61,63],lw:=[6]}
def Mi:Ann:={iso:=false,kinds:=[(7,.S)],nl:=[9,10,13,17],lw:=[7]}
def Mj:Ann:={iso:=false,kinds:=[(9,.S)],hb:=[7,31],no:=[45],nl:=[11,14,19,24,29,33,38,42,43],lw:=[6,7,9,47],loops:=[(0,{vals:=[(0,none),(4,none),(33,none),(34,none),(35,none),(7000,none),(7001,none),(7002,none),(7003,none),(8000,none),(8001,none),(8002,none),(8003,some 4)],locs:=[(6,7000,0),(7,8000,0)],lbs:=[(7000,4),(8000,4)]})],nils:=[(7,[3])]}
def Mk:Ann:={nl:=[15],loops:=[(0,{vals:=vN [0,1,7,8]})]}
def Ml:Ann:={iso:=false,kinds:=[(8,.S),(12,.S)],no:=[61],nl:=[14,16,20,26,33,37,42,45,50,55,58,59,66],lw:=[6,8,12],joins:=[(17,{vals:=vN [0,4,5,7,7000,7001,7002,7003],locs:=[(6,7000,0)],lbs:=[(7000,4)]})],loops:=[(0,{vals:=[(0,none),(4,none),(7,none),(8,none),(10,some 4),(50,none),(51,none),(52,none),(7000,none),(7001,none),(7002,none),(7003,none)],locs:=[(6,7000,0)],lbs:=[(7000,4)]})]}
def Mm:Ann:={iso:=false,kinds:=[(7,.S)],hl:=[47,54,60,69,90,105,110,127],ha:=[77],no:=[76],nl:=[12,15,17,19,22,26,30,35,40,47,54,56,60,69,71,73,84,90,92,95,105,107,110,112,117,119,121,127],lw:=[6,7],joins:=[(49,{vals:=vN [0,5,7,8,7000,7001,7002,7003],locs:=[(6,7000,0)],lbs:=[(7000,4)]}),(113,{vals:=vN [9,10,7000,7001,7002,7003],locs:=[(6,7000,0)],lbs:=[(7000,4)]})],ords:=[(2,[0,1,2,3,4,5,7,6,8])]}
def Mn:Ann:={nl:=[14,18],loops:=[(0,{vals:=vN [0,3]})]}
def Mo:Ann:={nl:=[4,5]}
def Mp:Ann:={}
def Mq:Ann:={}
def Mr:Ann:={iso:=false,kinds:=[(6,.S),(7,.S),(9,.S)],no:=[28,45,55,65],nl:=[24,25,42],lw:=[4,6,7,9],joins:=[(12,{vals:=vN [0,1,5000,5001,5002,5003,5004,5005],locs:=[(4,5000,0)],lbs:=[(5000,6)]})]}
def Mt:Ann:={no:=[8]}
def Mu:Ann:={}
def Mv:Ann:={}
def Mw:Ann:={nl:=[6,8,11,16,23,30,36,45,54,58,63,65],lw:=[2,4,17,24,31,37,46,55,66,67],joins:=[(12,{vals:=vN [1,11,12,3000,3001,3002,3003,3004,3005,5000,5001,5002,5003,5004,5005],locs:=[(2,3000,0),(4,5000,0)],lbs:=[(3000,6),(5000,6)]}),(19,{vals:=vN [1,11,19,3000,3001,3002,3003,3004,3005,5000,5001,5002,5003,5004,5005],locs:=[(2,3000,0),(4,5000,0)],lbs:=[(3000,6),(5000,6)]}),(26,{vals:=vN [1,11,26,3000,3001,3002,3003,3004,3005,5000,5001,5002,5003,5004,5005],locs:=[(2,3000,0),(4,5000,0)],lbs:=[(3000,6),(5000,6)]})]}
def Mx:Ann:={nl:=[6,10,14,20,24,30,34,39,44,54,59,63,67,73,80,86,96,100,106],joins:=[(47,{vals:=vN [1,6,47]})],loops:=[(1,{vals:=vN [1,80,81,82]})]}
def My:Ann:={nl:=[15],loops:=[(0,{vals:=vN [0,1,7,8]})]}
def Mz:Ann:={nl:=[5,6]}
def MA:Ann:={kinds:=[(5,.S)],nl:=[7,12,14],lw:=[5],loops:=[(0,{vals:=vN [3,7,8,9]})]}
def MB:Ann:={nl:=[5,7]}
def MD:Ann:={iso:=false,kinds:=[(3,.S),(4,.S),(5,.S)],hl:=[17,51,93],no:=[65],nl:=[12,17,22,40,44,51,62,64,79,93],lw:=[2,3,4,5]}
def ME:Ann:={iso:=false,hb:=[3,5],no:=[28,35],lw:=[2,3,30,37],joins:=[(10,{vals:=[(0,none),(4,none),(3000,none),(3001,none),(3002,none),(3003,none),(3004,none),(3005,none),(4000,none),(4001,none),(4002,none),(4003,none),(4004,some 1),(4005,some 6)],locs:=[(2,3000,0),(3,4000,0)],lbs:=[(3000,6),(4000,6)]})],loops:=[(0,{vals:=[(0,none),(4,none),(3000,none),(3001,none),(3002,none),(3003,none),(3004,none),(3005,none),(4000,none),(4001,none),(4002,none),(4003,none),(4004,some 1),(4005,some 6)],locs:=[(2,3000,0),(3,4000,0)],lbs:=[(3000,6),(4000,6)]})],nils:=[(3,[4,5])]}
def MF:Ann:={iso:=false,no:=[17],joins:=[(9,{vals:=[(0,none),(3,some 6)]})],loops:=[(0,{vals:=[(0,none),(3,some 6)]})]}
def MG:Ann:={iso:=false,kinds:=[(3,.S),(4,.S)],hl:=[12,17,24,28,35,39],nl:=[12,17,24,28,31,35,39,42,44,48,53,58],lw:=[3,4]}
def MH:Ann:={iso:=false,kinds:=[(3,.S)],no:=[24],nl:=[9,15,19,29,31,36,41],lw:=[3],loops:=[(1,{vals:=vN [3,24,25,26]})]}
noncomputable def FY:List (Nat×(Func×Ann)):=[
(3,(Tryz.f3,T9)),
(4,(Tryz.f4,Ua)),
(5,(Tryz.f5,Ub)),
(6,(Tryz.f6,Uc)),
(7,(Tryz.f7,Ud)),
(8,(Tryz.f8,Ue)),
(9,(Tryz.f9,Uf)),
(10,(Tryz.f10,O8)),
(11,(Tryz.f11,O9)),
(12,(Tryz.f12,Pa)),
(13,(Tryz.f13,Pb)),
(14,(Tryz.f14,Pf)),
(15,(Tryz.f15,Ph)),
(16,(Tryz.f16,Pi)),
(17,(Tryz.f17,Pj)),
(18,(Tryz.f18,Pk)),
(19,(Tryz.f19,Pl)),
(20,(Tryz.f20,Pm)),
(21,(Tryz.f21,Pn)),
(22,(Tryz.f22,Po)),
(24,(Tryz.f24,Pp)),
(26,(Tryz.f26,Pq)),
(27,(Tryz.f27,Pr)),
(28,(Tryz.f28,Ps)),
(29,(Tryz.f29,Pt)),
(31,(Tryz.f31,Pu)),
(32,(Tryz.f32,Pv)),
(33,(Tryz.f33,Pw)),
(34,(Tryz.f34,Px)),
(35,(Tryz.f35,Py)),
(36,(Tryz.f36,Pz)),
(37,(Tryz.f37,PC)),
(38,(Tryz.f38,PD)),
(39,(Tryz.f39,PE)),
(40,(Tryz.f40,PF)),
(41,(Tryz.f41,PG)),
(42,(Tryz.f42,PH)),
(44,(Tryz.f44,PI)),
(45,(Tryz.f45,PK)),
(46,(Tryz.f46,PL)),
(47,(Tryz.f47,PM)),
(48,(Tryz.f48,PN)),
(49,(Tryz.f49,PO)),
(50,(Tryz.f50,PP)),
(51,(Tryz.f51,PQ)),
(52,(Tryz.f52,PS)),
(53,(Tryz.f53,PT)),
(54,(Tryz.f54,PU)),
(55,(Tryz.f55,PV)),
(56,(Tryz.f56,PW)),
(57,(Tryz.f57,PX)),
(58,(Tryz.f58,PY)),
(59,(Tryz.f59,PZ)),
(60,(Tryz.f60,P0)),
(62,(Tryz.f62,P1)),
(63,(Tryz.f63,P2)),
(64,(Tryz.f64,P3)),
(65,(Tryz.f65,P4)),
(66,(Tryz.f66,P5)),
(67,(Tryz.f67,P6)),
(68,(Tryz.f68,P7)),
(69,(Tryz.f69,P8)),
(70,(Tryz.f70,P9)),
(71,(Tryz.f71,Qa)),
(72,(Tryz.f72,Qb)),
(73,(Tryz.f73,Qc)),
(74,(Tryz.f74,Qd)),
(75,(Tryz.f75,Qe)),
(76,(Tryz.f76,Qf)),
(77,(Tryz.f77,Qg)),
(78,(Tryz.f78,Qh)),
(79,(Tryz.f79,Qi)),
(80,(Tryz.f80,Qj)),
(82,(Tryz.f82,Qk)),
(83,(Tryz.f83,Ql)),
(84,(Tryz.f84,Qm)),
(85,(Tryz.f85,Qn)),
(86,(Tryz.f86,Qo)),
(87,(Tryz.f87,Qp)),
(88,(Tryz.f88,Qq)),
(89,(Tryz.f89,Qr)),
(90,(Tryz.f90,Qs)),
(91,(Tryz.f91,Qt)),
(92,(Tryz.f92,Qu)),
(93,(Tryz.f93,Qv)),
(94,(Tryz.f94,Qw)),
(95,(Tryz.f95,Qx)),
(96,(Tryz.f96,Qy)),
(97,(Tryz.f97,Qz)),
(98,(Tryz.f98,QA)),
(99,(Tryz.f99,QB)),
(100,(Tryz.f100,Ll)),
(101,(Tryz.f101,Lm)),
(102,(Tryz.f102,Lo)),
(103,(Tryz.f103,Lp)),
(104,(Tryz.f104,Lq)),
(105,(Tryz.f105,Lr)),
(109,(Tryz.f109,Ls)),
(110,(Tryz.f110,Lt)),
(111,(Tryz.f111,Lu)),
(112,(Tryz.f112,Lv)),
(114,(Tryz.f114,Lw)),
(115,(Tryz.f115,Lx)),
(116,(Tryz.f116,Ly)),
(117,(Tryz.f117,Lz)),
(118,(Tryz.f118,LA)),
(119,(Tryz.f119,LC)),
(120,(Tryz.f120,LD)),
(121,(Tryz.f121,LF)),
(122,(Tryz.f122,LG)),
(123,(Tryz.f123,LH)),
(124,(Tryz.f124,LI)),
(125,(Tryz.f125,LJ)),
(126,(Tryz.f126,LK)),
(127,(Tryz.f127,LL)),
(128,(Tryz.f128,LM)),
(129,(Tryz.f129,LN)),
(131,(Tryz.f131,LO)),
(132,(Tryz.f132,LP)),
(133,(Tryz.f133,LQ)),
(134,(Tryz.f134,LR)),
(135,(Tryz.f135,LS)),
(136,(Tryz.f136,LU)),
(137,(Tryz.f137,LV)),
(138,(Tryz.f138,LW)),
(139,(Tryz.f139,LX)),
(141,(Tryz.f141,LY)),
(142,(Tryz.f142,LZ)),
(144,(Tryz.f144,L4)),
(145,(Tryz.f145,L5)),
(146,(Tryz.f146,L6)),
(147,(Tryz.f147,L8)),
(148,(Tryz.f148,L9)),
(149,(Tryz.f149,Ma)),
(150,(Tryz.f150,Mb)),
(151,(Tryz.f151,Mc)),
(152,(Tryz.f152,Md)),
(153,(Tryz.f153,Me)),
(154,(Tryz.f154,Mf)),
(155,(Tryz.f155,Mg)),
(156,(Tryz.f156,Mh)),
(157,(Tryz.f157,Mi)),
(158,(Tryz.f158,Mj)),
(159,(Tryz.f159,Mk)),
(160,(Tryz.f160,Ml)),
(161,(Tryz.f161,Mm)),
(162,(Tryz.f162,Mn)),
(163,(Tryz.f163,Mo)),
(164,(Tryz.f164,Mp)),
(165,(Tryz.f165,Mq)),
(166,(Tryz.f166,Mr)),
(167,(Tryz.f167,Mt)),
(170,(Tryz.f170,Mu)),
(171,(Tryz.f171,Mv)),
(173,(Tryz.f173,Mw)),
(174,(Tryz.f174,Mx)),
(175,(Tryz.f175,My)),
(176,(Tryz.f176,Mz)),
(177,(Tryz.f177,MA)),
(178,(Tryz.f178,MB)),
(179,(Tryz.f179,MD)),
(182,(Tryz.f182,ME)),
(183,(Tryz.f183,MF)),
(184,(Tryz.f184,MG)),
(191,(Tryz.f191,MH))]
def Dx:List (Nat×(Func×Ann))->Nat->Option (Func×Ann)
 |[],_=>none
 |(k,x):: r,t=>bif Nat.beq k t then some x else Dx r t
def own:FuncId->Option Nat:=fun f=>bif Nat.beq f 113 then some 1 else bif Nat.beq f 170 then some 1 else bif Nat.beq f 171 then some 4 else none
noncomputable def other:FuncId->Option ((FuncId->List AV->M AV)->List AV->M AV):=fun f=>
 bif Nat.beq f 23 then some (ep T 24)else bif Nat.beq f 25 then some (cy T 23)else bif Nat.beq f 30 then some (sT)else bif Nat.beq f 43 then some (ep T 22)else bif Nat.beq f 81 then some (Bq 30 .i64 (.agg [.int .i64 0,.int .i64 0,.sl [],.sl []]))else bif Nat.beq f 106 then some (cy T 29)else bif Nat.beq f 107 then some (cy T 34)else bif Nat.beq f 108 then some (cy T 35)else bif Nat.beq f 113 then some (ep T 31)else bif Nat.beq f 130 then some (sX)else bif Nat.beq f 143 then some (lN)else none
noncomputable def pg:Pg:={ T:=T,funcs:=Dx FY,own:=own,other:=other,nw:=fun f=>bif Nat.beq f 25 then true else bif Nat.beq f 106 then true else bif Nat.beq f 107 then true else bif Nat.beq f 108 then true else false }
noncomputable def zP(call:FuncId->List AV->M AV):FuncId->List AV->M AV:=fun f args=>bif pg.iso f then dz (call f args)else call f args
def g8:fT pg:=by
 intro f E hE call calls hc;have h0:other f=some E:=hE;unfold other at h0;rcases fC h0 with rfl|h0
 ·exact pb _ _ _ _
 rcases fC h0 with rfl|h0
 ·exact mw _ _ _ _
 rcases fC h0 with rfl|h0
 ·exact Ig _ _ hc
 rcases fC h0 with rfl|h0
 ·exact pb _ _ _ _
 rcases fC h0 with rfl|h0
 ·exact IL _ _ _ _ _ hc
 rcases fC h0 with rfl|h0
 ·exact mw _ _ _ _
 rcases fC h0 with rfl|h0
 ·exact mw _ _ _ _
 rcases fC h0 with rfl|h0
 ·exact mw _ _ _ _
 rcases fC h0 with rfl|h0
 ·exact pb _ _ _ _
 rcases fC h0 with rfl|h0
 ·exact cK.const _
 rcases fC h0 with rfl|h0
 ·exact cK.const _
 cases h0
structure RV (m:M AV)
structure RL (m:M (List AV))
structure RI (m:AV)
instance {m:M AV}:CoeOut (RV m) (M AV):=⟨fun _=>m⟩
instance {m:M (List AV)}:CoeOut (RL m) (M (List AV)):=⟨fun _=>m⟩
instance {m:AV}:CoeOut (RI m) AV:=⟨fun _=>m⟩
def qi(n:Int):RI (AV.int .i64 n):=⟨⟩
def qc(x:AV):RI (AV.ip (aa x)):=⟨⟩
structure RM (l:List AV)
instance {l:List AV}:CoeOut (RM l) (List AV):=⟨fun _=>l⟩
def Sz(v:List AV):RM [ab v 0,ab v 1,ab v 2]:=⟨⟩
def mS(v l:List AV):RM (ab v 0::ab v 1::ab v 2::l):=⟨⟩
def gy(v:List AV):RM [ab v 0,ab v 1,ab v 2,ab v 3]:=⟨⟩
def nP(v l:List AV):RM (ab v 0::ab v 1::ab v 2::ab v 3::l):=⟨⟩
def sS(v:List AV):RM [ab v 0,ab v 1,ab v 2,ab v 3,ab v 4]:=⟨⟩
def uU(v l:List AV):RM (ab v 0::ab v 1::ab v 2::ab v 3::ab v 4::l):=⟨⟩
def uT(v:List AV):RM [ab v 0,ab v 1,ab v 2,ab v 3,ab v 4,ab v 5]:=⟨⟩
def Kk(v l:List AV):RM (ab v 0::ab v 1::ab v 2::ab v 3::ab v 4::ab v 5::l):=⟨⟩
def VX(v:List AV):RM [ab v 0,ab v 1,ab v 2,ab v 3,ab v 4,ab v 5,ab v 6]:=⟨⟩
def SB(v l:List AV):RM (ab v 0::ab v 1::ab v 2::ab v 3::ab v 4::ab v 5::ab v 6::l):=⟨⟩
def SA(v:List AV):RM [ab v 0,ab v 1,ab v 2,ab v 3,ab v 4,ab v 5,ab v 6,ab v 7]:=⟨⟩
def VY(v l:List AV):RM (ab v 0::ab v 1::ab v 2::ab v 3::ab v 4::ab v 5::ab v 6::ab v 7::l):=⟨⟩
def VZ(v l:List AV):RM (ab v 0::ab v 1::ab v 2::ab v 3::ab v 4::ab v 5::ab v 6::ab v 7::ab v 8::l):=⟨⟩
def H8(v:List AV):RM [ab v 0,ab v 1,ab v 2,ab v 3,ab v 4,ab v 5,ab v 6,ab v 7,ab v 8,ab v 9,ab v 10,ab v 11]:=⟨⟩
def Wy(v l:List AV):RM (ab v 0::ab v 1::ab v 2::ab v 3::ab v 4::ab v 5::ab v 6::ab v 7::ab v 8::ab v 9::ab v 10::ab v 11::l):=⟨⟩
def m5(v:List AV):RM [ab v 0,ab v 1,ab v 2,ab v 3,ab v 4,ab v 5,ab v 6,ab v 7,ab v 8,ab v 9,ab v 10,ab v 11,ab v 12]:=⟨⟩
def Wz(v l:List AV):RM (ab v 0::ab v 1::ab v 2::ab v 3::ab v 4::ab v 5::ab v 6::ab v 7::ab v 8::ab v 9::ab v 10::ab v 11::ab v 12::l):=⟨⟩
def eX(t:TypeId)(p:AV)(f:AV->M (AV)):RV (au (bP (ax T t p)) f):=⟨⟩
def ct(t:TypeId)(p:AV)(i:Nat)(f:AV->M (AV)):RV (au (bP (ah T t p i)) f):=⟨⟩
def aU(o:BinOp)(t:TypeId)(x y:AV)(f:AV->M (AV)):RV (au (bP (cF T o t x y)) f):=⟨⟩
def cO(t:TypeId)(p:AV)(f:AV->M (AV)):RV (au (bP (bp T t p)) f):=⟨⟩
def jU(t:TypeId)(p i:AV)(f:AV->M (AV)):RV (au (bP (aA T t p i)) f):=⟨⟩
def dU(p:AV)(f:AV->M (AV)):RV (au (bP (kq p)) f):=⟨⟩
def iz(b:Bool)(t:TypeId)(l:List (Nat×AV))(f:AV->M (AV)):RV (au (bP (cG T b t l)) f):=⟨⟩
def oq(o:UnOp)(x:AV)(f:AV->M (AV)):RV (au (bP (KC o x)) f):=⟨⟩
def jd(x:AV)(i:Nat)(f:AV->M (AV)):RV (au (bP (dy x i)) f):=⟨⟩
def sB(t:TypeId)(n:Nat)(l:List (Nat×AV))(f:AV->M (AV)):RV (au (bP (aQ T t n l)) f):=⟨⟩
def eI(t:TypeId)(p:AV)(f:AV->M (AV)):RV (au (bb T t p) f):=⟨⟩
def na(t:TypeId)(p v:AV)(f:AV->M (AV)):RV (au (bS T t p v) f):=⟨⟩
def jv(n:Nat)(x:AV)(f:AV->M (AV)):RV (au (cg n x) f):=⟨⟩
def fH(n:Nat)(l:List Nat)(x:AV)(f:AV->M (AV)):RV (au (bD n l x) f):=⟨⟩
def A0(x:AV)(f:AV->M (AV)):RV (au (gL x) f):=⟨⟩
def aR(t:TypeId)(p:AV)(i:Nat)(u:TypeId)(f:AV->M (AV)):RV (au (bP (ah T t p i)) fun v=>au (bP (ax T u v)) f):=⟨⟩
def eH(t:TypeId)(p i:AV)(u:TypeId)(f:AV->M (AV)):RV (au (bP (aA T t p i)) fun v=>au (bP (ax T u v)) f):=⟨⟩
def bY(o:BinOp)(t:TypeId)(x y:AV)(m n:M (AV)):RV (au (bP (cF T o t x y)) fun v=>aC v m n):=⟨⟩
def fk(c:AV)(m:M (List AV))(f:AV->M (AV)):RV (au (aK c true 1 m) fun w=>au (bP (gx c (ab w 0) (AV.bool false))) f):=⟨⟩
def eG(c:AV)(m:M (List AV))(f:AV->M (AV)):RV (au (aK c false 1 m) fun w=>au (bP (gx c (AV.bool true) (ab w 0))) f):=⟨⟩
def OH(t:TypeId)(p:AV)(f:AV->M (List AV)):RL (au (bP (ax T t p)) f):=⟨⟩
def Gb(t:TypeId)(p:AV)(i:Nat)(f:AV->M (List AV)):RL (au (bP (ah T t p i)) f):=⟨⟩
def cN(o:BinOp)(t:TypeId)(x y:AV)(f:AV->M (List AV)):RL (au (bP (cF T o t x y)) f):=⟨⟩
def zi(c x y:AV)(f:AV->M (List AV)):RL (au (bP (gx c x y)) f):=⟨⟩
def kw(t:TypeId)(p:AV)(f:AV->M (List AV)):RL (au (bP (bp T t p)) f):=⟨⟩
def s8(t:TypeId)(p i:AV)(f:AV->M (List AV)):RL (au (bP (aA T t p i)) f):=⟨⟩
def Wx(p:AV)(f:AV->M (List AV)):RL (au (bP (kq p)) f):=⟨⟩
def VQ(b:Bool)(t:TypeId)(l:List (Nat×AV))(f:AV->M (List AV)):RL (au (bP (cG T b t l)) f):=⟨⟩
def m9(o:UnOp)(x:AV)(f:AV->M (List AV)):RL (au (bP (KC o x)) f):=⟨⟩
def VS(t:TypeId)(n:Nat)(l:List (Nat×AV))(f:AV->M (List AV)):RL (au (bP (aQ T t n l)) f):=⟨⟩
def W1(t:TypeId)(p:AV)(f:AV->M (List AV)):RL (au (bb T t p) f):=⟨⟩
def ca(t:TypeId)(p:AV)(i:Nat)(u:TypeId)(f:AV->M (List AV)):RL (au (bP (ah T t p i)) fun v=>au (bP (ax T u v)) f):=⟨⟩
def Ww(t:TypeId)(p i:AV)(u:TypeId)(f:AV->M (List AV)):RL (au (bP (aA T t p i)) fun v=>au (bP (ax T u v)) f):=⟨⟩
end Go.Proofs.YtbndmpiddinalabGreatDoor
namespace Go.Proofs.YtbndmpiddinalabGreatDoor
open Go Go.Av
set_option maxRecDepth 1000000
instance dr0:Dr:=⟨False⟩
def Sk{p:Prop}(h:Dr.on):p:=False.elim h
def Od:(tab.map fun x=>Oe Tryz.prog x.1)=tab.map fun x=>some x.2:=ZY
theorem wT:(l:List (Nat×TI))->(t:Nat)->(ti:TI)->Dy l t=some ti->(t,ti)∈l
 |[],t,ti,h=>by cases h
 | (k,x):: r,t,ti,h=>by
  simp only[Dy]at h;cases hk:Nat.beq k t with
  |true=>
   simp_all
  |false=>
   rw[hk]at h;exact YS _ (wT r t ti h)
theorem uL{α β:Type}{f g:α->β}:{l:List α} ->l.map f=l.map g->∀x∈l,f x=g x
 |[],_,x,hx=>by cases hx
 |a:: l,h,x,hx=>by
  simp only[Yf,ZP]at h;rcases X7.1 hx with rfl|hx
  all_goals simp_all
def tok:TOK Tryz.prog T:=⟨fun t ti h=>uL Od (t,ti) (wT tab t ti h),ZY⟩
theorem Kx:(FY.map fun x=>Tryz.prog.funcs[x.1]?)=FY.map fun x=>some x.2.1:=ZY
theorem CW:(FY.map fun x=>x.2.1.name== "runtime.NumGoroutine")=FY.map fun _=>false:=ZY
theorem wS:(l:List (Nat×(Func×Ann)))->(t:Nat)->(x:Func×Ann)->Dx l t=some x->(t,x)∈l
 |[],t,ti,h=>by cases h
 | (k,x):: r,t,ti,h=>by
  simp only[Dx]at h;cases hk:Nat.beq k t with
  |true=>
   simp_all
  |false=>
   rw[hk]at h;exact YS _ (wS r t ti h)
def He:∀f fn a,pg.funcs f=some (fn,a)->Tryz.prog.funcs[f]? = some fn/\(fn.name== "runtime.NumGoroutine")=false:=by
 intro f fn a h
 have:=wS FY f (fn,a) h
 grind [uL,Kx,CW]
end Go.Proofs.YtbndmpiddinalabGreatDoor
namespace Go.Proofs.YtbndmpiddinalabGreatDoor
open Go Go.Av Go.RowKit
set_option maxRecDepth 100000
def y7{S:aD}{β:List cE}{s:List UInt8}{r:List Value}{l:List AV}(hv:bB S β (.str s:: l) r):∃x r',r= .string x:: r'/\x.data.toList=s/\bB S β l r':=by
 simp only[bB,VR]at hv
 grind
def NW(call:FuncId->List AV->M AV)(args:List AV)(h:Hp)(S:aD)(β:List cE)(w:World)(vs:List Value)(hr:lN call args h≠.fail)(hg:wk S β h w)(hw:Wf S w)(hh:dE S β w h)(hv:bB S β args vs):
  Calls Tryz.prog 143 vs.toArray w (fg none S β h w (lN call args h)):=by
 unfold lN at hr |-;split at hr
 ·rename_i s t;obtain⟨x,r,rfl,hx,hv⟩:=y7 hv;obtain⟨y,r,rfl,hy,hv⟩:=y7 hv;simp only[bB]at hv;subst hv;cases hc:decide (s.length<4294967281)with
  |false=>rw[hc]at hr;exact absurd rfl hr
  |true=>
   simp only[Xw];have hlen:x.size=s.length:=by rw[<- hx,Yh];rfl
   obtain⟨m,hm⟩:=hg.1.max;refine (Any.strings_Contains Xk x y m w ZU hm).mono ?_;rintro e w' ⟨rfl,rfl⟩;exact zL hw hh (Below.refl _ _) Sk (by simp only[VR];rw[hx,hy])
 ·exact absurd rfl hr
def Ky{w:World}(h:GOKw w):Lib.TabIs Tryz.prog w "strings.asciiSpace" .u8 Lib.asciiSpaceTab:=by
 obtain⟨t,fr,hp⟩:=h.asc
 have hn:Tryz.prog.globalNamed "strings.asciiSpace" = some 1:=ZY
 grind [Lib.TabIs,World.var?]
def NV(call:FuncId->List AV->M AV)(args:List AV)(h:Hp)(S:aD)(β:List cE)(w:World)(vs:List Value)(hr:sX call args h≠.fail)(hg:wk S β h w)(hw:Wf S w)(hh:dE S β w h)(hv:bB S β args vs):
  Calls Tryz.prog 130 vs.toArray w (fg none S β h w (sX call args h)):=by
 unfold sX at hr |-;split at hr
 ·rename_i s;obtain⟨x,r,rfl,hx,hv⟩:=y7 hv;simp only[bB]at hv;subst hv;cases hc:(decide (s.length<4294967281)&&s.all (fun b=>decide (b.toNat<128)))with
  |false=>rw[hc]at hr;exact absurd rfl hr
  | true=>
   simp only[Xw];rw[Xu]at hc;have hlen:x.size=s.length:=by rw[<- hx,Yh];rfl
   have hasc:∀(j:Nat)(b:UInt8),x.data.toList[j]? = some b->b.toNat<128:=fun j b hj=>by
    grind
   refine (Any.strings_Fields Xj ZY ZY x w ZU hasc (Ky hg.1)).mono ?_;rintro e w' ⟨rfl,rfl⟩;have hl:((Lib.fields x.data.toList).map fun l=>(⟨l.toArray⟩:ByteArray)).map (·.data.toList)=Lib.fields s:=by
    rw[hx,ZF]
    conv=>rhs;rw[<- List.map_id (Lib.fields s)]
    exact YL fun l _=>rfl
   have:=ID S β w.heap.size ((Lib.fields x.data.toList).map fun l=>(⟨l.toArray⟩:ByteArray)) _ hl
   simp only[ZF,Yy]at this;exact ES hw hh ((Below.refl _ _).alloc (Xz _) _) Sk (Row.new w _ _) (Xz _) this
 ·exact absurd rfl hr
end Go.Proofs.YtbndmpiddinalabGreatDoor
namespace Go.Proofs.YtbndmpiddinalabGreatDoor
open Go Go.Av
set_option maxRecDepth 100000
noncomputable def pe(n:Nat)(a:Ann):Cx:={ T:=T,call:=fun _ _=>gU,own:=own,iso:=fun _=>false,nw:=fun _=>false,nt:=n,ann:=a }
def iZ(n:Nat)(a:Ann):dD Tryz.prog (pe n a).own (pe n a).call:=fun f args h S β w vs hr=>absurd rfl hr
def mz(n:Nat)(a:Ann):IsoCall (pe n a):=⟨fun f args h=>Bool.noConfusion h,fun f args h=>Bool.noConfusion h⟩
def Ur(e:AV)(es:List AV):bX (pe Tryz.f23.ntmps Dd) (dh 0) Tryz.f23 (own 23) [.sl (e:: es)]=au (bP (dJ T 24 (.sl []) (.sl (e:: es)))) fun v=>au (bP (some v)) ao:=ZY
def Us:bX (pe Tryz.f23.ntmps Dd) (dh 0) Tryz.f23 (own 23) [.hn]=au (bP (some (.sl []))) ao:=ZY
def Ut(l off:Nat):bX (pe Tryz.f23.ntmps Dd) (dh 0) Tryz.f23 (own 23) [.hs l off 0 1 false]=au (bP (dJ T 24 (.sl []) (.hs l off 0 1 false))) fun v=>au (bP (some v)) ao:=ZY
def Uu(l off:Nat):dJ T 24 (.sl []) (.hs l off 0 1 false)=some (.sl []):=by rfl
def Sp(call:FuncId->List AV->M AV)(args:List AV)(h:Hp)(S:aD)(β:List cE)(w:World)(vs:List Value)(hr:ep T 24 call args h≠.fail)(hg:wk S β h w)(hw:Wf S w)(hh:dE S β w h)(hv:bB S β args vs):
  Calls Tryz.prog 23 vs.toArray w (fg (own 23) S β h w (ep T 24 call args h)):=by
 have key:∀es,args=[.sl es]->Calls Tryz.prog 23 vs.toArray w (fg (own 23) S β h w (ep T 24 call args h)):=by
  rintro es rfl;exact (nA (cx:=pe Tryz.f23.ntmps Dd) (E:=fun es h=>ep T 24 call [.sl es] h) tok (iZ _ _) (mz _ _) Tryz.func23 rfl (fun h=>by rfl) (fun e es h=>by rw[Ur];exact YZ (kG _) h) (fun h=>by rw[Us];rfl) (fun l off h=>by rw[Ut,Uu];rfl) hr hg hw hh hv).1
 unfold ep at hr;split at hr
 ·exact key _ rfl
 ·exact absurd rfl hr
def Uy(e:AV)(es:List AV):bX (pe Tryz.f43.ntmps Df) (dh 0) Tryz.f43 (own 43) [.sl (e:: es)]=au (bP (dJ T 22 (.sl []) (.sl (e:: es)))) fun v=>au (bP (some v)) ao:=ZY
def Uz:bX (pe Tryz.f43.ntmps Df) (dh 0) Tryz.f43 (own 43) [.hn]=au (bP (some (.sl []))) ao:=ZY
def UA(l off:Nat):bX (pe Tryz.f43.ntmps Df) (dh 0) Tryz.f43 (own 43) [.hs l off 0 1 false]=au (bP (dJ T 22 (.sl []) (.hs l off 0 1 false))) fun v=>au (bP (some v)) ao:=ZY
def UB(l off:Nat):dJ T 22 (.sl []) (.hs l off 0 1 false)=some (.sl []):=by rfl
def Ss(call:FuncId->List AV->M AV)(args:List AV)(h:Hp)(S:aD)(β:List cE)(w:World)(vs:List Value)(hr:ep T 22 call args h≠.fail)(hg:wk S β h w)(hw:Wf S w)(hh:dE S β w h)(hv:bB S β args vs):
  Calls Tryz.prog 43 vs.toArray w (fg (own 43) S β h w (ep T 22 call args h)):=by
 have key:∀es,args=[.sl es]->Calls Tryz.prog 43 vs.toArray w (fg (own 43) S β h w (ep T 22 call args h)):=by
  rintro es rfl;exact (nA (cx:=pe Tryz.f43.ntmps Df) (E:=fun es h=>ep T 22 call [.sl es] h) tok (iZ _ _) (mz _ _) Tryz.func43 rfl (fun h=>by rfl) (fun e es h=>by rw[Uy];exact YZ (kG _) h) (fun h=>by rw[Uz];rfl) (fun l off h=>by rw[UA,UB];rfl) hr hg hw hh hv).1
 unfold ep at hr;split at hr
 ·exact key _ rfl
 ·exact absurd rfl hr
def QU(e:AV)(es:List AV):bX (pe Tryz.f113.ntmps yc) (dh 0) Tryz.f113 (own 113) [.sl (e:: es)]=au (bP (dJ T 31 (.sl []) (.sl (e:: es)))) fun v=>au (bP (some v)) ao:=ZY
def QV:bX (pe Tryz.f113.ntmps yc) (dh 0) Tryz.f113 (own 113) [.hn]=au (bP (some (.sl []))) ao:=ZY
def QW(l off:Nat):bX (pe Tryz.f113.ntmps yc) (dh 0) Tryz.f113 (own 113) [.hs l off 0 1 false]=au (bP (dJ T 31 (.sl []) (.hs l off 0 1 false))) fun v=>au (bP (some v)) ao:=ZY
def QX(l off:Nat):dJ T 31 (.sl []) (.hs l off 0 1 false)=some (.sl []):=by rfl
def NU(call:FuncId->List AV->M AV)(args:List AV)(h:Hp)(S:aD)(β:List cE)(w:World)(vs:List Value)(hr:ep T 31 call args h≠.fail)(hg:wk S β h w)(hw:Wf S w)(hh:dE S β w h)(hv:bB S β args vs):
  Calls Tryz.prog 113 vs.toArray w (fg (own 113) S β h w (ep T 31 call args h)):=by
 have key:∀es,args=[.sl es]->Calls Tryz.prog 113 vs.toArray w (fg (own 113) S β h w (ep T 31 call args h)):=by
  rintro es rfl;exact (nA (cx:=pe Tryz.f113.ntmps yc) (E:=fun es h=>ep T 31 call [.sl es] h) tok (iZ _ _) (mz _ _) Tryz.func113 rfl (fun h=>by rfl) (fun e es h=>by rw[QU];exact YZ (kG _) h) (fun h=>by rw[QV];rfl) (fun l off h=>by rw[QW,QX];rfl) hr hg hw hh hv).1
 unfold ep at hr;split at hr
 ·exact key _ rfl
 ·exact absurd rfl hr
def Uv(e:AV)(es:List AV):bX (pe Tryz.f25.ntmps De) (dh 0) Tryz.f25 none [.sl (e:: es)]=au (gf T 23 false .he (.sl (e:: es))) fun v=>au (bP (some v)) ao:=ZY
def Uw:bX (pe Tryz.f25.ntmps De) (dh 0) Tryz.f25 none [.hn]=au (bP (some .hn)) ao:=ZY
def Ux(l off len sz:Nat)(ag:Bool):bX (pe Tryz.f25.ntmps De) (dh 0) Tryz.f25 none [.hs l off len sz ag]=au (gf T 23 false .he (.hs l off len sz ag)) fun v=>au (bP (some v)) ao:=ZY
def Sq(call:FuncId->List AV->M AV)(args:List AV)(h:Hp)(S:aD)(β:List cE)(w:World)(vs:List Value)(hr:cy T 23 call args h≠.fail)(hg:wk S β h w)(hw:Wf S w)(hh:dE S β w h)(hv:bB S β args vs):
  Calls Tryz.prog 25 vs.toArray w (fg (own 25) S β h w (cy T 23 call args h)):=by
 have ho:own 25=none:=ZY
 rw[ho];unfold cy at hr |-;split at hr
 ·exact kj (cx:=pe Tryz.f25.ntmps De) tok (iZ _ _) (mz _ _) Tryz.func25 rfl (fun h=>by rfl) (fun e es h=>by rw[Uv];exact YZ (kG _) h) (fun h=>by rw[Uw];rfl) (fun l off len sz ag h=>by rw[Ux];exact YZ (kG _) h) hr hg hw hh hv
 ·exact absurd rfl hr
def QL(e:AV)(es:List AV):bX (pe Tryz.f106.ntmps xZ) (dh 0) Tryz.f106 none [.sl (e:: es)]=au (gf T 29 false .he (.sl (e:: es))) fun v=>au (bP (some v)) ao:=ZY
def QM:bX (pe Tryz.f106.ntmps xZ) (dh 0) Tryz.f106 none [.hn]=au (bP (some .hn)) ao:=ZY
def QN(l off len sz:Nat)(ag:Bool):bX (pe Tryz.f106.ntmps xZ) (dh 0) Tryz.f106 none [.hs l off len sz ag]=au (gf T 29 false .he (.hs l off len sz ag)) fun v=>au (bP (some v)) ao:=ZY
def NR(call:FuncId->List AV->M AV)(args:List AV)(h:Hp)(S:aD)(β:List cE)(w:World)(vs:List Value)(hr:cy T 29 call args h≠.fail)(hg:wk S β h w)(hw:Wf S w)(hh:dE S β w h)(hv:bB S β args vs):
  Calls Tryz.prog 106 vs.toArray w (fg (own 106) S β h w (cy T 29 call args h)):=by
 have ho:own 106=none:=ZY
 rw[ho];unfold cy at hr |-;split at hr
 ·exact kj (cx:=pe Tryz.f106.ntmps xZ) tok (iZ _ _) (mz _ _) Tryz.func106 rfl (fun h=>by rfl) (fun e es h=>by rw[QL];exact YZ (kG _) h) (fun h=>by rw[QM];rfl) (fun l off len sz ag h=>by rw[QN];exact YZ (kG _) h) hr hg hw hh hv
 ·exact absurd rfl hr
def QO(e:AV)(es:List AV):bX (pe Tryz.f107.ntmps ya) (dh 0) Tryz.f107 none [.sl (e:: es)]=au (gf T 34 false .he (.sl (e:: es))) fun v=>au (bP (some v)) ao:=ZY
def QP:bX (pe Tryz.f107.ntmps ya) (dh 0) Tryz.f107 none [.hn]=au (bP (some .hn)) ao:=ZY
def QQ(l off len sz:Nat)(ag:Bool):bX (pe Tryz.f107.ntmps ya) (dh 0) Tryz.f107 none [.hs l off len sz ag]=au (gf T 34 false .he (.hs l off len sz ag)) fun v=>au (bP (some v)) ao:=ZY
def NS(call:FuncId->List AV->M AV)(args:List AV)(h:Hp)(S:aD)(β:List cE)(w:World)(vs:List Value)(hr:cy T 34 call args h≠.fail)(hg:wk S β h w)(hw:Wf S w)(hh:dE S β w h)(hv:bB S β args vs):
  Calls Tryz.prog 107 vs.toArray w (fg (own 107) S β h w (cy T 34 call args h)):=by
 have ho:own 107=none:=ZY
 rw[ho];unfold cy at hr |-;split at hr
 ·exact kj (cx:=pe Tryz.f107.ntmps ya) tok (iZ _ _) (mz _ _) Tryz.func107 rfl (fun h=>by rfl) (fun e es h=>by rw[QO];exact YZ (kG _) h) (fun h=>by rw[QP];rfl) (fun l off len sz ag h=>by rw[QQ];exact YZ (kG _) h) hr hg hw hh hv
 ·exact absurd rfl hr
def QR(e:AV)(es:List AV):bX (pe Tryz.f108.ntmps yb) (dh 0) Tryz.f108 none [.sl (e:: es)]=au (gf T 35 false .he (.sl (e:: es))) fun v=>au (bP (some v)) ao:=ZY
def QS:bX (pe Tryz.f108.ntmps yb) (dh 0) Tryz.f108 none [.hn]=au (bP (some .hn)) ao:=ZY
def QT(l off len sz:Nat)(ag:Bool):bX (pe Tryz.f108.ntmps yb) (dh 0) Tryz.f108 none [.hs l off len sz ag]=au (gf T 35 false .he (.hs l off len sz ag)) fun v=>au (bP (some v)) ao:=ZY
def NT(call:FuncId->List AV->M AV)(args:List AV)(h:Hp)(S:aD)(β:List cE)(w:World)(vs:List Value)(hr:cy T 35 call args h≠.fail)(hg:wk S β h w)(hw:Wf S w)(hh:dE S β w h)(hv:bB S β args vs):
  Calls Tryz.prog 108 vs.toArray w (fg (own 108) S β h w (cy T 35 call args h)):=by
 have ho:own 108=none:=ZY
 rw[ho];unfold cy at hr |-;split at hr
 ·exact kj (cx:=pe Tryz.f108.ntmps yb) tok (iZ _ _) (mz _ _) Tryz.func108 rfl (fun h=>by rfl) (fun e es h=>by rw[QR];exact YZ (kG _) h) (fun h=>by rw[QS];rfl) (fun l off len sz ag h=>by rw[QT];exact YZ (kG _) h) hr hg hw hh hv
 ·exact absurd rfl hr
def O6:Prop:=∀call,dD Tryz.prog own call->∀(args:List AV)(h:Hp)(S:aD)(β:List cE)(w:World)(vs:List Value),Bq 30 .i64 (.agg [.int .i64 0,.int .i64 0,.sl [],.sl []]) call args h≠.fail->wk S β h w->Wf S w->dE S β w h->bB S β args vs->
 Calls Tryz.prog 81 vs.toArray w (fg none S β h w (Bq 30 .i64 (.agg [.int .i64 0,.int .i64 0,.sl [],.sl []]) call args h))
end Go.Proofs.YtbndmpiddinalabGreatDoor
namespace Go.Proofs.YtbndmpiddinalabGreatDoor
open Go Go.Av
def BV(p q:Addr)(w:World):CallsD Tryz.prog 140 #[.pointer (some p),.pointer (some q)] .returning w fun e u' w'=>e= .returned (.tuple #[])/\u'= .returning/\w'=w:=by
 refine callsD_of_wpS Tryz.func140 rfl fun c₀ cs hu=>?_;apply wpS_seq;apply wpS_region;simp[wpOpsS,go_sem,recoverD,hu,Tryz.ntmps140,Exit.thenS];refine wpS_of_wp ?_
 go_wp2
 cases c₀;simp_all[bodyPostS,results]
def Gq(n:Int)(w:World):(Instr.typeAssert (.iface 30 (.int .i64 n)) 20 30 true).run Tryz.prog w= .ok (.tuple #[.int .i64 n,.bool true]) w:=ZY
def MP(w:World):(Instr.build 33 #[]).run Tryz.prog w= .ok (.agg #[.int .i64 0,.int .i64 0,.slice none 0 0,.slice none 0 0]) w:=by
 obtain⟨v,h1,h2⟩:=zE (P:=Tryz.prog) (T:=T) (w:=w) (S:=fun _ _=>none) (β:=[]) (told:=true) (t:=33) (parts:=[]) (r:=.agg [.int .i64 0,.int .i64 0,.hn,.hn]) (qs:=#[]) tok rfl rfl;rw[h1];simp only[VR,bB]at h2
 grind
set_option maxHeartbeats 4000000 in
set_option maxRecDepth 100000 in
def EO(b c:Nat)(x0 x1 x2 x3 y0:Value)(n:Int)(w:World)(c0:w.cell? ⟨b,0,none⟩=some x0)(c1:w.cell? ⟨b,1,none⟩=some x1)(c2:w.cell? ⟨b,2,none⟩=some x2)(c3:w.cell? ⟨b,3,none⟩=some x3)(d0:w.cell? ⟨c,0,none⟩=some y0)(f0:w.frozen? ⟨b,0,none⟩=false)(f1:w.frozen? ⟨b,1,none⟩=false)(f2:w.frozen? ⟨b,2,none⟩=false)(f3:w.frozen? ⟨b,3,none⟩=false)(g0:w.frozen? ⟨c,0,none⟩=false)(hne:¬b=c)(hne':¬c=b):
  CallsD Tryz.prog 140 #[.pointer (some ⟨b,0,none⟩),.pointer (some ⟨c,0,none⟩)] (.panicking [{ v:=.iface 30 (.int .i64 n),recovered:=false }]) w fun e u' w'=>
   e= .returned (.tuple #[])/\u'= .panicking [{ v:=.iface 30 (.int .i64 n),recovered:=true }]/\w'=((((w.setCell ⟨b,0,none⟩ (.int .i64 0)).setCell ⟨b,1,none⟩ (.int .i64 0)).setCell ⟨b,2,none⟩ (.slice none 0 0)).setCell ⟨b,3,none⟩ (.slice none 0 0)).setCell ⟨c,0,none⟩ (.int .i64 n):=by
 refine callsD_of_wpS Tryz.func140 rfl fun c₀ cs hu=>?_;apply wpS_seq;apply wpS_region;simp[wpOpsS,go_sem,recoverD,hu,Tryz.ntmps140,Exit.thenS];refine wpS_of_wp ?_;have h1:=Gq n;have h2:=MP
 go_wp2
 simp_all[bodyPostS,results]
end Go.Proofs.YtbndmpiddinalabGreatDoor
namespace Go.Proofs.YtbndmpiddinalabGreatDoor
open Go Go.Av
set_option maxRecDepth 100000
def rI(w:World):World:=(w.alloc (Obj.cells #[Value.int IntKind.i64 0,Value.int IntKind.i64 0,Value.slice none 0 0,Value.slice none 0 0] 33)).alloc (Obj.cells #[Value.int IntKind.i64 0] 30)
def CY(w w':World)(u0 u1 u2 u3 e:Value):World:=((((w'.setCell ⟨w.heap.size,0,none⟩ u0).setCell ⟨w.heap.size,1,none⟩ u1).setCell ⟨w.heap.size,2,none⟩ u2).setCell ⟨w.heap.size,3,none⟩ u3).setCell ⟨w.heap.size+1,0,none⟩ e
def V4(w:World)(R:Ending->World->Prop):Ending->World->Prop:=fun e w'=>
 w'.heap[w.heap.size]? = (rI w).heap[w.heap.size]? /\w'.heap[w.heap.size+1]? = (rI w).heap[w.heap.size+1]? /\
 ((∃u0 u1 u2 u3:Value,u0.oneCell'=true/\u1.oneCell'=true/\u2.oneCell'=true/\u3.oneCell'=true/\e= .returned (.agg #[u0,u1,u2,u3])/\R (.returned (.tuple #[.agg #[u0,u1,u2,u3],.int .i64 0])) (CY w w' u0 u1 u2 u3 (.int .i64 0)))\/
  ∃n,e= .panicked [{ v:=.iface 30 (.int .i64 n),recovered:=false }]/\R (.returned (.tuple #[.agg #[.int .i64 0,.int .i64 0,.slice none 0 0,.slice none 0 0],.int .i64 n])) (CY w w' (.int .i64 0) (.int .i64 0) (.slice none 0 0) (.slice none 0 0) (.int .i64 n)))
set_option maxHeartbeats 4000000 in
def IP(g:FuncId)(x y:Array Value)(w:World)(R:Ending->World->Prop)(hfn:(Tryz.prog.funcs[g]?).any (fun fn=>fn.body.isSome&&!(fn.name== "runtime.NumGoroutine"))=true)(hc:Calls Tryz.prog g (x++y) (rI w) (V4 w R)):Calls Tryz.prog 81 #[.func (.func g) x y] w R:=by
 have hmf:∀(fn:Fn)(first cap:Array Value)(w:World),(Instr.makeFunc fn first cap).run Tryz.prog w= .ok (.func fn first cap) w:=fun _ _ _ _=>rfl
 go_enter_defers Tryz.func81,Tryz.ntmps81
 go_wp2
 rw[iC hfn,Oper.upon_enter];refine hc.mono fun e w' h=>?_;obtain⟨k0,k1,h⟩:=h;have r0:w'.heap[w.heap.size]? = some (.cells #[Value.int IntKind.i64 0,Value.int IntKind.i64 0,Value.slice none 0 0,Value.slice none 0 0] 33):=by rw[k0];exact (Go.Av.alloc_old _ _ ZV).trans (heap_alloc_new w _)
 have r1:w'.heap[w.heap.size+1]? = some (.cells #[Value.int IntKind.i64 0] 30):=by rw[k1];have:=heap_alloc_new (w.alloc (Obj.cells #[Value.int IntKind.i64 0,Value.int IntKind.i64 0,Value.slice none 0 0,Value.slice none 0 0] 33)) (Obj.cells #[Value.int IntKind.i64 0] 30);rwa [World.size_alloc]at this
 have c0:w'.cell? ⟨w.heap.size,0,none⟩=some (.int .i64 0):=by simp[World.cell?,r0]
 have c1:w'.cell? ⟨w.heap.size,1,none⟩=some (.int .i64 0):=by simp[World.cell?,r0]
 have c2:w'.cell? ⟨w.heap.size,2,none⟩=some (.slice none 0 0):=by simp[World.cell?,r0]
 have c3:w'.cell? ⟨w.heap.size,3,none⟩=some (.slice none 0 0):=by simp[World.cell?,r0]
 have d0:w'.cell? ⟨w.heap.size+1,0,none⟩=some (.int .i64 0):=by simp[World.cell?,r1]
 have f0:w'.frozen? ⟨w.heap.size,0,none⟩=false:=by simp[World.frozen?,r0]
 have f1:w'.frozen? ⟨w.heap.size,1,none⟩=false:=by simp[World.frozen?,r0]
 have f2:w'.frozen? ⟨w.heap.size,2,none⟩=false:=by simp[World.frozen?,r0]
 have f3:w'.frozen? ⟨w.heap.size,3,none⟩=false:=by simp[World.frozen?,r0]
 have g0:w'.frozen? ⟨w.heap.size+1,0,none⟩=false:=by simp[World.frozen?,r1]
 clear k0 k1 r0 r1 hc hmf;rcases h with⟨u0,u1,u2,u3,o0,o1,o2,o3,rfl,hR⟩|⟨n,rfl,hR⟩
 ·simp only;rename_i K1 hK1 K hK;apply hK;clear hK;have hK1':=hK1;clear hK1;have s0:∀a m (w:World),(store a u0 m).run Tryz.prog w=stored Tryz.prog w a u0 m:=fun a m w=>run_store _ w a u0 m o0;have s1:∀a m (w:World),(store a u1 m).run Tryz.prog w=stored Tryz.prog w a u1 m:=fun a m w=>run_store _ w a u1 m o1;have s2:∀a m (w:World),(store a u2 m).run Tryz.prog w=stored Tryz.prog w a u2 m:=fun a m w=>run_store _ w a u2 m o2;have s3:∀a m (w:World),(store a u3 m).run Tryz.prog w=stored Tryz.prog w a u3 m:=fun a m w=>run_store _ w a u3 m o3
  go_wp2
  change Leaves _ _ _ _ _ _ _;refine leaves_cons (f:=140) (args:=#[.pointer (some ⟨w.heap.size,0,none⟩),.pointer (some ⟨w.heap.size+1,0,none⟩)]) ZV (by simp[go_sem]) ?_;refine (BV ⟨w.heap.size,0,none⟩ ⟨w.heap.size+1,0,none⟩ _).mono ?_;rintro e u' w'' ⟨rfl,rfl,rfl⟩;simp only[Leaves,settle];refine⟨_,?_,hR⟩;simp[results,Tryz.results81,go_sem,CY,World.cell?_setCell_same,c0,c1,c2,c3,d0]
 ·change Leaves _ _ _ _ _ _ _;refine leaves_cons (f:=140) (args:=#[.pointer (some ⟨w.heap.size,0,none⟩),.pointer (some ⟨w.heap.size+1,0,none⟩)]) ZV (by simp[go_sem]) ?_;refine (EO w.heap.size (w.heap.size+1) _ _ _ _ _ n w' c0 c1 c2 c3 d0 f0 f1 f2 f3 g0 ZS ZS).mono ?_;rintro e u' w'' ⟨rfl,rfl,rfl⟩;simp only[Leaves,settle];refine⟨_,?_,hR⟩;simp[results,Tryz.results81,go_sem,CY,World.cell?_setCell_same,c0,c1,c2,c3,d0]
end Go.Proofs.YtbndmpiddinalabGreatDoor
