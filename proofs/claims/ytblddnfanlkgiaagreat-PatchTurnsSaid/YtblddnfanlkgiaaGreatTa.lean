/- What the functions of the seat compute, part 1: the texts of the claim, one behind the other. Conditions: bounds, as each theorem names them. -/
import Derived.Shelf.SlGeneric
import Derived.Ground.Names8Prog
import Derived.Ground.NamesProg
import Derived.Shelf.Spec.SlicesGrow
import Derived.Shelf.Strings.Search3
import Derived.Test.YtblddnfanlkgiaaGreatProg
import Derived.Test.YtblddnfanlkgiaaGreatLc
import Derived.RangeFuncNested
import Derived.RangeFuncBound
import Derived.RangeFuncCalls
import Derived.RangeFuncLeaves
import Derived.RangeFuncBox
import Derived.Shelf.Abstract
import Derived.Shelf.RegionOpen
import Derived.OwnWalkIn
import Derived.TacticsInMore
import Derived.LoopNIn
import Derived.LoopIn
set_option linter.defProp false
set_option linter.unusedSimpArgs false
set_option linter.unusedVariables false
namespace Go.Proofs
open Go.Shelf
def Tryz.layGrow146_ren:Go.Shelf.Ren:=⟨fun|4=>111|n=>n,fun|22=>22|25=>9|3=>3|4=>4|9=>9|20=>20|0=>0|n=>n,fun|n=>n⟩
def JB:Go.Proofs.Lays8.n4 Tryz.prog Tryz.layGrow146_ren:={
 mixed:=by kernel_rfl
 f4:=⟨Tryz.f111.name,by decide,Tryz.func111.trans (JU some (by kernel_rfl))⟩
 t0:=Tryz.underlying0
 a0:=Tryz.isAgg0
 z0:=Tryz.sizeOf0
 v0:=Tryz.zeroValue0
 t3:=Tryz.underlying3
 a3:=Tryz.isAgg3
 z3:=Tryz.sizeOf3
 v3:=Tryz.zeroValue3
 t4:=Tryz.underlying4
 a4:=Tryz.isAgg4
 z4:=Tryz.sizeOf4
 v4:=Tryz.zeroValue4
 t9:=Tryz.underlying9
 a9:=Tryz.isAgg9
 z9:=Tryz.sizeOf9
 v9:=Tryz.zeroValue9
 t20:=Tryz.underlying20
 a20:=Tryz.isAgg20
 z20:=Tryz.sizeOf20
 v20:=Tryz.zeroValue20
 t22:=Tryz.underlying22
 a22:=Tryz.isAgg22
 z22:=Tryz.sizeOf22
 v22:=Tryz.zeroValue22 }
def Tryz.layGrow149_ren:Go.Shelf.Ren:=⟨fun|4=>115|n=>n,fun|22=>112|25=>98|3=>3|4=>4|9=>9|20=>20|0=>0|n=>n,fun|n=>n⟩
def Jz:Go.Proofs.Lays8.n4 Tryz.prog Tryz.layGrow149_ren:={
 mixed:=by kernel_rfl
 f4:=⟨Tryz.f115.name,by decide,Tryz.func115.trans (JU some (by kernel_rfl))⟩
 t0:=Tryz.underlying0
 a0:=Tryz.isAgg0
 z0:=Tryz.sizeOf0
 v0:=Tryz.zeroValue0
 t3:=Tryz.underlying3
 a3:=Tryz.isAgg3
 z3:=Tryz.sizeOf3
 v3:=Tryz.zeroValue3
 t4:=Tryz.underlying4
 a4:=Tryz.isAgg4
 z4:=Tryz.sizeOf4
 v4:=Tryz.zeroValue4
 t9:=Tryz.underlying9
 a9:=Tryz.isAgg9
 z9:=Tryz.sizeOf9
 v9:=Tryz.zeroValue9
 t20:=Tryz.underlying20
 a20:=Tryz.isAgg20
 z20:=Tryz.sizeOf20
 v20:=Tryz.zeroValue20
 t22:=Tryz.underlying112
 a22:=Tryz.isAgg112
 z22:=Tryz.sizeOf112
 v22:=Tryz.zeroValue112 }
def Tryz.layGrow151_ren:Go.Shelf.Ren:=⟨fun|4=>117|n=>n,fun|22=>25|25=>48|3=>3|4=>4|9=>9|20=>20|0=>0|n=>n,fun|n=>n⟩
def JD:Go.Proofs.Lays8.n4 Tryz.prog Tryz.layGrow151_ren:={
 mixed:=by kernel_rfl
 f4:=⟨Tryz.f117.name,by decide,Tryz.func117.trans (JU some (by kernel_rfl))⟩
 t0:=Tryz.underlying0
 a0:=Tryz.isAgg0
 z0:=Tryz.sizeOf0
 v0:=Tryz.zeroValue0
 t3:=Tryz.underlying3
 a3:=Tryz.isAgg3
 z3:=Tryz.sizeOf3
 v3:=Tryz.zeroValue3
 t4:=Tryz.underlying4
 a4:=Tryz.isAgg4
 z4:=Tryz.sizeOf4
 v4:=Tryz.zeroValue4
 t9:=Tryz.underlying9
 a9:=Tryz.isAgg9
 z9:=Tryz.sizeOf9
 v9:=Tryz.zeroValue9
 t20:=Tryz.underlying20
 a20:=Tryz.isAgg20
 z20:=Tryz.sizeOf20
 v20:=Tryz.zeroValue20
 t22:=Tryz.underlying25
 a22:=Tryz.isAgg25
 z22:=Tryz.sizeOf25
 v22:=Tryz.zeroValue25 }
def Tryz.layGrow153_ren:Go.Shelf.Ren:=⟨fun|4=>120|n=>n,fun|22=>118|25=>27|3=>3|4=>4|9=>9|20=>20|0=>0|n=>n,fun|n=>n⟩
def JC:Go.Proofs.Lays8.n4 Tryz.prog Tryz.layGrow153_ren:={
 mixed:=by kernel_rfl
 f4:=⟨Tryz.f120.name,by decide,Tryz.func120.trans (JU some (by kernel_rfl))⟩
 t0:=Tryz.underlying0
 a0:=Tryz.isAgg0
 z0:=Tryz.sizeOf0
 v0:=Tryz.zeroValue0
 t3:=Tryz.underlying3
 a3:=Tryz.isAgg3
 z3:=Tryz.sizeOf3
 v3:=Tryz.zeroValue3
 t4:=Tryz.underlying4
 a4:=Tryz.isAgg4
 z4:=Tryz.sizeOf4
 v4:=Tryz.zeroValue4
 t9:=Tryz.underlying9
 a9:=Tryz.isAgg9
 z9:=Tryz.sizeOf9
 v9:=Tryz.zeroValue9
 t20:=Tryz.underlying20
 a20:=Tryz.isAgg20
 z20:=Tryz.sizeOf20
 v20:=Tryz.zeroValue20
 t22:=Tryz.underlying118
 a22:=Tryz.isAgg118
 z22:=Tryz.sizeOf118
 v22:=Tryz.zeroValue118 }
def JE:Go.Shelf.Ren:=⟨fun|144=>75|143=>107|219=>127|217=>128|225=>129|224=>130|267=>131|266=>132|314=>133|n=>n,fun|9=>9|4=>4|3=>3|5=>5|46=>182|146=>184|51=>183|n=>n,fun|1=>0|n=>n⟩
def JF:Go.Proofs.Lays.n144 Tryz.prog JE:={
 mixed:=by kernel_rfl
 f143:=Tryz.func107.trans (JU some (by kernel_rfl))
 f144:=Tryz.func75.trans (JU some (by kernel_rfl))
 f217:=Tryz.func128.trans (JU some (by kernel_rfl))
 f219:=Tryz.func127.trans (JU some (by kernel_rfl))
 f224:=Tryz.func130.trans (JU some (by kernel_rfl))
 f225:=Tryz.func129.trans (JU some (by kernel_rfl))
 f266:=Tryz.func132.trans (JU some (by kernel_rfl))
 f267:=Tryz.func131.trans (JU some (by kernel_rfl))
 f314:=Tryz.func133.trans (JU some (by kernel_rfl))
 t3:=Tryz.underlying3
 a3:=Tryz.isAgg3
 z3:=Tryz.sizeOf3
 v3:=Tryz.zeroValue3
 t4:=Tryz.underlying4
 a4:=Tryz.isAgg4
 z4:=Tryz.sizeOf4
 v4:=Tryz.zeroValue4
 t5:=Tryz.underlying5
 a5:=Tryz.isAgg5
 z5:=Tryz.sizeOf5
 v5:=Tryz.zeroValue5
 t9:=Tryz.underlying9
 a9:=Tryz.isAgg9
 z9:=Tryz.sizeOf9
 v9:=Tryz.zeroValue9
 t46:=Tryz.underlying182
 a46:=Tryz.isAgg182
 z46:=Tryz.sizeOf182
 v46:=Tryz.zeroValue182
 t51:=Tryz.underlying183
 a51:=Tryz.isAgg183
 z51:=Tryz.sizeOf183
 v51:=Tryz.zeroValue183
 t146:=Tryz.underlying184
 a146:=Tryz.isAgg184
 z146:=Tryz.sizeOf184
 v146:=Tryz.zeroValue184
 g1:=by kernel_rfl }
end Go.Proofs
namespace Go.Proofs.YtblddnfanlkgiaaGreat
open Go Go.Av Go.Av.Ap
abbrev CC:=FuncId->List AV->M AV
abbrev RR:=List AV->M AV
def lb{α β:Type}{m:M α}{f:α->M β}{fs:Nat->α->M β}(hf:bA f fs):aQ (ae m f) fun n=>ae m (fs n):=aQ.bnd (aQ.const _) hf
abbrev vN(l:List Nat):List (Nat×Option Nat):=l.map fun x=>(x,none)
abbrev tF:TI:=TI.mk false 1 8 .func [] [.nilf] false
noncomputable def tab:List (Nat×TI):=[
(0,(TI.mk false 1 0 .other [] [.any] false)),
(1,tF),
(2,(TI.mk false 1 8 (.int .i64) [] [.int .i64 0] false)),
(3,(TI.mk false 1 8 (.int .i64) [] [.int .i64 0] false)),
(4,(TI.mk false 1 1 .bool [] [.bool false] false)),
(5,(TI.mk false 1 1 (.int .u8) [] [.int .u8 0] false)),
(6,(TI.mk false 1 1 (.int .u8) [] [.int .u8 0] false)),
(7,(TI.mk true 4 24 .struct [(0,((2,true))),(1,((3,true))),(2,((4,true))),(3,((6,true)))] [.int .i64 0,.int .i64 0,.bool false,.int .u8 0] true)),
(8,(TI.mk true 4 24 .struct [(0,((2,true))),(1,((3,true))),(2,((4,true))),(3,((6,true)))] [.int .i64 0,.int .i64 0,.bool false,.int .u8 0] true)),
(9,(TI.mk false 1 16 .str [] [.str []] false)),
(10,(TI.mk false 1 16 .str [] [.str []] false)),
(11,(TI.mk false 1 16 .str [] [.str []] false)),
(12,(TI.mk false 1 8 (.int .u64) [] [.int .u64 0] false)),
(13,(TI.mk true 2 24 .struct [(0,((9,true))),(1,((12,true)))] [.str [],.int .u64 0] false)),
(14,(TI.mk true 2 24 .struct [(0,((9,true))),(1,((12,true)))] [.str [],.int .u64 0] false)),
(15,(TI.mk false 1 8 .ptr [] [.nilp] false)),
(16,(TI.mk false 1 8 .ptr [] [.nilp] false)),
(17,(TI.mk false 1 8 .ptr [] [.nilp] false)),
(18,(TI.mk true 1 8 .struct [(0,((17,true)))] [.nilp] false)),
(19,(TI.mk true 1 8 .struct [(0,((17,true)))] [.nilp] false)),
(20,(TI.mk false 1 16 .iface [] [.nili] false)),
(21,(TI.mk false 1 4 (.int .i32) [] [.int .i32 0] false)),
(22,(TI.mk false 1 24 (.slice 9) [] [.sl []] false)),
(23,(TI.mk false 1 24 (.slice 51) [] [.sl []] false)),
(24,(TI.mk false 1 24 (.slice 46) [] [.sl []] false)),
(25,(TI.mk false 1 24 (.slice 48) [] [.sl []] false)),
(26,(TI.mk true 3 72 .struct [(0,((23,true))),(1,((24,true))),(2,((24,true)))] [.sl [],.sl [],.sl []] true)),
(27,(TI.mk true 3 72 .struct [(0,((23,true))),(1,((24,true))),(2,((24,true)))] [.sl [],.sl [],.sl []] true)),
(28,(TI.mk true 9 192 .struct [(0,((9,true))),(1,((22,true))),(2,((23,true))),(3,((24,true))),(4,((25,true))),(5,((4,true))),(6,((27,true)))] [.str [],.sl [],.sl [],.sl [],.sl [],.bool false,.sl [],.sl [],.sl []] true)),
(29,(TI.mk true 9 192 .struct [(0,((9,true))),(1,((22,true))),(2,((23,true))),(3,((24,true))),(4,((25,true))),(5,((4,true))),(6,((27,true)))] [.str [],.sl [],.sl [],.sl [],.sl [],.bool false,.sl [],.sl [],.sl []] true)),
(30,(TI.mk false 1 24 (.slice 56) [] [.sl []] false)),
(31,tF),
(32,tF),
(33,(TI.mk false 1 8 (.int .i64) [] [.int .i64 0] false)),
(34,(TI.mk false 1 0 .other [] [.any] false)),
(35,tF),
(36,(TI.mk false 1 0 .other [] [.any] false)),
(37,tF),
(38,tF),
(39,tF),
(40,tF),
(41,tF),
(42,tF),
(43,(TI.mk true 2 32 .struct [(0,((3,true))),(1,((23,true)))] [.int .i64 0,.sl []] true)),
(44,(TI.mk true 2 32 .struct [(0,((3,true))),(1,((23,true)))] [.int .i64 0,.sl []] true)),
(45,(TI.mk true 6 96 .struct [(0,((3,true))),(1,((3,true))),(2,((9,true))),(3,((9,true))),(4,((22,true))),(5,((24,true)))] [.int .i64 0,.int .i64 0,.str [],.str [],.sl [],.sl []] true)),
(46,(TI.mk true 6 96 .struct [(0,((3,true))),(1,((3,true))),(2,((9,true))),(3,((9,true))),(4,((22,true))),(5,((24,true)))] [.int .i64 0,.int .i64 0,.str [],.str [],.sl [],.sl []] true)),
(47,(TI.mk true 12 184 .struct [(0,((9,true))),(1,((4,true))),(2,((23,true))),(3,((44,true))),(5,((3,true))),(6,((46,true)))] [.str [],.bool false,.sl [],.int .i64 0,.sl [],.int .i64 0,.int .i64 0,.int .i64 0,.str [],.str [],.sl [],.sl []] true)),
(48,(TI.mk true 12 184 .struct [(0,((9,true))),(1,((4,true))),(2,((23,true))),(3,((44,true))),(5,((3,true))),(6,((46,true)))] [.str [],.bool false,.sl [],.int .i64 0,.sl [],.int .i64 0,.int .i64 0,.int .i64 0,.str [],.str [],.sl [],.sl []] true)),
(49,tF),
(50,(TI.mk true 3 48 .struct [(0,((9,true))),(1,((44,true)))] [.str [],.int .i64 0,.sl []] true)),
(51,(TI.mk true 3 48 .struct [(0,((9,true))),(1,((44,true)))] [.str [],.int .i64 0,.sl []] true)),
(52,tF),
(53,tF),
(54,(TI.mk false 1 24 (.slice 90) [] [.sl []] false)),
(55,(TI.mk true 2 40 .struct [(0,((9,true))),(1,((54,true)))] [.str [],.sl []] true)),
(56,(TI.mk true 2 40 .struct [(0,((9,true))),(1,((54,true)))] [.str [],.sl []] true)),
(57,(TI.mk false 1 0 .other [] [.any] false)),
(58,tF),
(59,(TI.mk false 1 8 .ptr [] [.nilp] false)),
(60,(TI.mk false 1 0 .other [] [.any] false)),
(61,tF),
(62,(TI.mk false 1 0 .other [] [.any] false)),
(63,(TI.mk false 1 8 (.map 9 56) [] [.nilm] false)),
(64,(TI.mk true 11 208 .struct [(0,((29,true))),(9,((63,true))),(10,((3,true)))] [.str [],.sl [],.sl [],.sl [],.sl [],.bool false,.sl [],.sl [],.sl [],.nilm,.int .i64 0] true)),
(65,(TI.mk true 11 208 .struct [(0,((29,true))),(9,((63,true))),(10,((3,true)))] [.str [],.sl [],.sl [],.sl [],.sl [],.bool false,.sl [],.sl [],.sl [],.nilm,.int .i64 0] true)),
(66,tF),
(67,(TI.mk false 1 0 .other [] [.any] false)),
(68,tF),
(69,tF),
(70,(TI.mk false 1 8 (.map 9 4) [] [.nilm] false)),
(71,tF),
(72,tF),
(73,tF),
(74,tF),
(75,tF),
(76,tF),
(77,tF),
(78,tF),
(79,tF),
(80,tF),
(81,tF),
(82,tF),
(83,tF),
(84,tF),
(85,tF),
(86,tF),
(87,tF),
(88,(TI.mk false 1 24 (.slice 44) [] [.sl []] false)),
(89,(TI.mk true 5 80 .struct [(0,((9,true))),(1,((88,true))),(2,((44,true))),(4,((3,true)))] [.str [],.sl [],.int .i64 0,.sl [],.int .i64 0] true)),
(90,(TI.mk true 5 80 .struct [(0,((9,true))),(1,((88,true))),(2,((44,true))),(4,((3,true)))] [.str [],.sl [],.int .i64 0,.sl [],.int .i64 0] true)),
(91,tF),
(92,tF),
(93,tF),
(94,tF),
(95,(TI.mk true 2 16 .struct [(0,((93,true))),(1,((94,true)))] [.nilf,.nilf] true)),
(96,(TI.mk true 2 16 .struct [(0,((93,true))),(1,((94,true)))] [.nilf,.nilf] true)),
(97,(TI.mk true 9 144 .struct [(0,((51,true))),(3,((46,true)))] [.str [],.int .i64 0,.sl [],.int .i64 0,.int .i64 0,.str [],.str [],.sl [],.sl []] true)),
(98,(TI.mk true 9 144 .struct [(0,((51,true))),(3,((46,true)))] [.str [],.int .i64 0,.sl [],.int .i64 0,.int .i64 0,.str [],.str [],.sl [],.sl []] true)),
(99,tF),
(100,tF),
(101,(TI.mk true 2 16 .struct [(0,((99,true))),(1,((100,true)))] [.nilf,.nilf] true)),
(102,(TI.mk true 2 16 .struct [(0,((99,true))),(1,((100,true)))] [.nilf,.nilf] true)),
(103,tF),
(104,(TI.mk true 2 16 .struct [(0,((103,true))),(1,((79,true)))] [.nilf,.nilf] true)),
(105,(TI.mk true 2 16 .struct [(0,((103,true))),(1,((79,true)))] [.nilf,.nilf] true)),
(106,tF),
(107,tF),
(108,(TI.mk true 2 16 .struct [(0,((106,true))),(1,((107,true)))] [.nilf,.nilf] true)),
(109,(TI.mk true 2 16 .struct [(0,((106,true))),(1,((107,true)))] [.nilf,.nilf] true)),
(110,(TI.mk false 1 0 .other [] [.any] false)),
(111,tF),
(112,(TI.mk false 1 24 (.slice 98) [] [.sl []] false)),
(113,(TI.mk false 1 0 .other [] [.any] false)),
(114,tF),
(115,tF),
(116,(TI.mk false 1 0 .other [] [.any] false)),
(117,tF),
(118,(TI.mk false 1 24 (.slice 27) [] [.sl []] false)),
(119,(TI.mk false 1 0 .other [] [.any] false)),
(120,tF),
(121,tF),
(122,(TI.mk false 1 0 .other [] [.any] false)),
(123,tF),
(124,tF),
(125,tF),
(126,(TI.mk false 1 0 .other [] [.any] false)),
(127,tF),
(128,tF),
(129,(TI.mk false 1 0 .other [] [.any] false)),
(130,tF),
(131,tF),
(132,tF),
(133,tF),
(134,tF),
(135,tF),
(136,tF),
(137,tF),
(138,tF),
(139,tF),
(140,tF),
(141,tF),
(142,tF),
(143,tF),
(144,tF),
(145,tF),
(146,tF),
(147,tF),
(148,tF),
(149,tF),
(150,tF),
(151,tF),
(152,tF),
(153,tF),
(154,tF),
(155,(TI.mk false 1 0 .other [] [.any] false)),
(156,tF),
(157,tF),
(158,tF),
(159,tF),
(160,tF),
(161,tF),
(162,tF),
(163,(TI.mk false 1 0 .other [] [.any] false)),
(164,tF),
(165,(TI.mk false 1 24 (.slice 22) [] [.sl []] false)),
(166,tF),
(167,tF),
(168,(TI.mk false 1 24 (.slice 112) [] [.sl []] false)),
(169,tF),
(170,(TI.mk false 1 24 (.slice 25) [] [.sl []] false)),
(171,tF),
(172,tF),
(173,tF),
(174,(TI.mk false 1 24 (.slice 118) [] [.sl []] false)),
(175,tF),
(176,tF),
(177,tF),
(178,tF),
(179,tF),
(180,tF),
(181,tF),
(182,(TI.mk false 1 8 (.int .u64) [] [.int .u64 0] false)),
(183,(TI.mk false 1 4 (.int .u32) [] [.int .u32 0] false)),
(184,(TI.mk false 1 0 .other [] [.any] false)),
(185,tF),
(186,tF),
(187,(TI.mk true 4 40 .struct [(0,((17,true))),(1,((17,true))),(2,((17,true))),(3,((9,true)))] [.nilp,.nilp,.nilp,.str []] false)),
(188,(TI.mk true 4 40 .struct [(0,((17,true))),(1,((17,true))),(2,((17,true))),(3,((9,true)))] [.nilp,.nilp,.nilp,.str []] false)),
(189,(TI.mk true 0 0 (.array 0 16) [] [] false)),
(190,(TI.mk true 0 0 .struct [(0,((189,false)))] [] false)),
(191,(TI.mk true 0 0 .struct [(0,((189,false)))] [] false)),
(192,tF),
(193,(TI.mk false 1 1 (.int .u8) [] [.int .u8 0] false)),
(194,(TI.mk false 1 1 (.int .u8) [] [.int .u8 0] false)),
(195,tF),
(196,(TI.mk false 1 8 .ptr [] [.nilp] false)),
(197,(TI.mk false 1 4 (.int .i32) [] [.int .i32 0] false)),
(198,(TI.mk false 1 4 (.int .i32) [] [.int .i32 0] false)),
(199,(TI.mk true 11 48 .struct [(0,((12,true))),(1,((12,true))),(2,((183,true))),(3,((193,true))),(4,((5,true))),(5,((5,true))),(6,((194,true))),(7,((195,true))),(8,((196,true))),(9,((197,true))),(10,((198,true)))] [.int .u64 0,.int .u64 0,.int .u32 0,.int .u8 0,.int .u8 0,.int .u8 0,.int .u8 0,.nilf,.nilp,.int .i32 0,.int .i32 0] false)),
(200,(TI.mk true 11 48 .struct [(0,((12,true))),(1,((12,true))),(2,((183,true))),(3,((193,true))),(4,((5,true))),(5,((5,true))),(6,((194,true))),(7,((195,true))),(8,((196,true))),(9,((197,true))),(10,((198,true)))] [.int .u64 0,.int .u64 0,.int .u32 0,.int .u8 0,.int .u8 0,.int .u8 0,.int .u8 0,.nilf,.nilp,.int .i32 0,.int .i32 0] false)),
(201,(TI.mk false 1 8 .other [] [.nilp] false))]
def wF:List (Nat×TI)->Nat->Option TI
 |[],_=>none
 |(k,x):: r,t=>bif Nat.beq k t then some x else wF r t
noncomputable def T:TT:=wF tab
def Gy:Ann:={kinds:=[(10,.S),(13,.S),(18,.S),(21,.S)],nl:=[29,30,31,37,41,45,49,50,51,58,59,60,79,85,86,87,94,95,96,102,105,110,112,132,135,138,151,152,157,164,165,170,174,175,180],lw:=[10,13,18,21],loops:=[(0,{vals:=vN [4,5,6,9,10,12,13,18,21,24,25]}),(2,{vals:=vN [4,5,6,9,10,12,13,18,21,24,25,26,27]})]}
def Ev:Ann:={kinds:=[(1,.S),(2,.H),(3,.S),(6,.S),(9,.S),(12,.S),(15,.S),(18,.S),(19,.S),(20,.S),(21,.H),(22,.H),(23,.S)],hl:=[95,128,129],hb:=[2,21,22,32,115],no:=[29,38,42,51,56,66,70,79,83,92,96,107,110,114,120,124,144,152],nl:=[35,49,63,77,90,95,105,106,109,113,117,118,119,122,123,127,128,129,141,149],lw:=[1,3,6,9,12,15,18,19,20,23]}
def GA:Ann:={nl:=[23,30,34,38],loops:=[(0,{vals:=vN [3,4,5,6,9]})]}
def A1:Ann:={kinds:=[(11,.S)],nl:=[16,20,25,31,33,38,40,45,46,47,58,63,73],lw:=[8,11]}
def GC:Ann:={kinds:=[(10,.S),(15,.S),(16,.S)],hl:=[42,103],nl:=[19,27,32,37,42,52,58,67,72,79,81,89,92,94,98,103,105,109],lw:=[10,15,16],loops:=[(0,{vals:=vN [2,6,32,33,34]}),(2,{vals:=vN [6,67,68,69]})]}
def GD:Ann:={kinds:=[(8,.S)],nl:=[13,18,32,37,40,44,50,56,62,68,74,77,82,88,94,100,102,109,112,115,121,126,133],lw:=[8],joins:=[(116,{vals:=vN [1,9,10]})],loops:=[(0,{vals:=vN [1,3,13,14,15]}),(2,{vals:=vN [1,6,32,33,34]})]}
def GE:Ann:={no:=[35],nl:=[27,34],joins:=[(1000001,{vals:=[(7,some 1),(8,none),(9,none)]})],loops:=[(0,{vals:=[(7,some 1),(8,none),(9,none)]})]}
def Cy:Ann:={no:=[12,36,54],nl:=[10,18,24,31,35,42,49,53],loops:=[(1,{vals:=[(2,none),(5,some 1),(6,none)]}),(3,{vals:=[(2,none),(5,some 1),(7,none)]})]}
def Cz:Ann:={nl:=[11,16,36,40,42,46,50,53,55,58,64,67,69,72,76,79,84,87,93,96]}
def Gv:Ann:={lw:=[2]}
def Gw:Ann:={lw:=[4]}
def Gx:Ann:={nl:=[9,11,15,17,22,24,29,31,35,37,42,45,51,54,64,67,72,74]}
def CB:Ann:={nl:=[6,16,19,23],loops:=[(0,{vals:=vN [1,3]})]}
def CE:Ann:={nl:=[6,16,20,25,29,35,39,44,49,55,60,66,72,78],loops:=[(0,{vals:=vN [1,3]})]}
def CF:Ann:={kinds:=[(10,.S),(11,.S),(12,.S),(13,.S),(18,.S),(24,.S)],hb:=[9,27],no:=[75,81,162,168],nl:=[26,33,35,37,39,50,51,53,55,70,74,80,87,89,91,93,104,105,107,109,125,128,130,133,136,139,157,161,167],lw:=[6,9,10,11,12,13,18,20,24,44,83,84,98,126,127,150,151,170,171],joins:=[(138,{vals:=[(16,none),(7000,none),(7001,none),(7002,none),(7003,none),(7004,none),(7005,none),(7006,none),(7007,none),(7008,none),(10000,none),(10001,none),(10002,some 3),(10003,some 6),(10004,none),(10005,none),(10006,none),(10007,none),(10008,none),(21000,none),(21001,none),(21002,none),(21003,none),(21004,none),(21005,none),(21006,none),(21007,none),(21008,none)],locs:=[(6,7000,0),(9,10000,0),(20,21000,0)],lbs:=[(7000,9),(10000,9),(21000,9)]})],loops:=[(0,{vals:=[(3,none),(4,none),(5,none),(12,none),(13,none),(16,none),(65,none),(66,none),(67,none),(7000,none),(7001,none),(7002,none),(7003,none),(7004,none),(7005,none),(7006,none),(7007,none),(7008,none),(10000,none),(10001,none),(10002,some 3),(10003,some 6),(10004,none),(10005,none),(10006,none),(10007,none),(10008,none)],locs:=[(6,7000,0),(9,10000,0)],lbs:=[(7000,9),(10000,9)]}),(2,{vals:=[(152,none),(153,none),(154,none),(7000,none),(7001,none),(7002,none),(7003,none),(7004,none),(7005,none),(7006,none),(7007,none),(7008,none),(10000,none),(10001,none),(10002,some 3),(10003,some 6),(10004,none),(10005,none),(10006,none),(10007,none),(10008,none)],locs:=[(6,7000,0),(9,10000,0)],lbs:=[(7000,9),(10000,9)]})],nils:=[(9,[2,3])]}
def CG:Ann:={iso:=false,kinds:=[(8,.S),(10,.S),(11,.S),(16,.H)],hl:=[44,55],hb:=[15],nl:=[13,22,24,29,31,36,44,46,55,57,58],lw:=[8,10,11],loops:=[(0,{vals:=vN [6,17,18,19]}),(2,{vals:=vN [6,8,17,18,19,24,25,26]})]}
def CH:Ann:={kinds:=[(5,.S),(8,.S),(11,.S)],nl:=[14,20,22,24,27,29,34,38,41,47,49,52,55,58,60,65,70,76,78,80,83,86,88,93],lw:=[5,8,11],loops:=[(0,{vals:=vN [1,14,15,16]}),(2,{vals:=vN [1,41,42,43]}),(4,{vals:=vN [1,70,71,72]})]}
def CI:Ann:={iso:=false,kinds:=[(8,.S),(10,.S)],hl:=[95],no:=[51],nl:=[15,21,26,34,36,48,49,54,56,65,73,81,90,95,97,101],lw:=[6,8,10],joins:=[(60,{vals:=vN [0,1,5,15,60,7000,7001],locs:=[(6,7000,0)],lbs:=[(7000,2)]}),(91,{vals:=vN [5,12,7000,7001],locs:=[(6,7000,0)],lbs:=[(7000,2)]})],ords:=[(11,[0,1,3,4,5,6,7,9,10,11,12,2,8,13,14,15,16,17])]}
def CJ:Ann:={nl:=[6,8,12]}
def CK:Ann:={}
def CL:Ann:={kinds:=[(7,.S)],nl:=[14,17,21,27,33],lw:=[7],loops:=[(0,{vals:=vN [0,1,5,9,10,11]})]}
def CM:Ann:={nl:=[3]}
def CN:Ann:={nl:=[3]}
def CO:Ann:={kinds:=[(6,.S)],nl:=[12,13],lw:=[6],loops:=[(0,{vals:=vN [0,1,7,8,9]})]}
def CP:Ann:={nl:=[15],loops:=[(0,{vals:=vN [0,1,5]})]}
def CQ:Ann:={nl:=[15],loops:=[(0,{vals:=vN [0,1,5]})]}
def CR:Ann:={nl:=[6,8,12,14]}
def CS:Ann:={nl:=[6,8,12,14,19,21,26,28,33,35,40,42]}
def CU:Ann:={nl:=[6,8,12,14,19,21,26,28,33,35,40,42]}
def CV:Ann:={nl:=[21,26,33,38],loops:=[(0,{vals:=vN [0,1,5]})]}
def CW:Ann:={nl:=[20,24],loops:=[(0,{vals:=vN [0,1,5]})]}
def Gz:Ann:={nl:=[7,9,13,15,20,22,28,30,35,37,42,44]}
def CX:Ann:={kinds:=[(8,.S),(9,.S)],nl:=[21,25,27,28],lw:=[8,9],loops:=[(0,{vals:=vN [1,2,15,16,17]})]}
def CY:Ann:={nl:=[6,8,12,14]}
def CZ:Ann:={nl:=[6,8,12,14]}
def C0:Ann:={nl:=[6,8,12,14,19,21,26,28,33,35,40,42]}
def C1:Ann:={nl:=[19,23],loops:=[(0,{vals:=vN [0,1,12,13]})]}
def C2:Ann:={kinds:=[(8,.S),(9,.S)],nl:=[21,25,27,28],lw:=[8,9],loops:=[(0,{vals:=vN [1,2,15,16,17]})]}
def C4:Ann:={kinds:=[(8,.S),(9,.S)],nl:=[21,25,27,28],lw:=[8,9],loops:=[(0,{vals:=vN [1,2,15,16,17]})]}
def Da:Ann:={nl:=[6,16,19,23,28],loops:=[(0,{vals:=vN [1,3]})]}
def Db:Ann:={nl:=[18],loops:=[(0,{vals:=vN [0,3]})]}
def Dc:Ann:={nl:=[3]}
def Dd:Ann:={nl:=[3]}
def De:Ann:={nl:=[17],loops:=[(0,{vals:=vN [0,3]})]}
def Df:Ann:={}
def Dg:Ann:={}
def Dh:Ann:={nl:=[5]}
def Di:Ann:={nl:=[7,10,14,16]}
def Dj:Ann:={nl:=[4]}
def Dk:Ann:={nl:=[6,8,12,14,19,21,26,28,33,35,40,42]}
def Dl:Ann:={}
def Dm:Ann:={nl:=[6,8,12,14,19,21]}
def Dn:Ann:={no:=[22,38],nl:=[28,30,40,44,48,57,66,71],joins:=[(62,{vals:=[(1,none),(2,none),(3,none),(4,none),(11,some 1),(12,some 1),(15,none),(17,none),(23,none),(24,none),(25,none),(62,none)]})],loops:=[(0,{vals:=[(1,none),(2,none),(3,none),(4,none),(11,some 1),(12,some 1),(23,none),(24,none),(25,none)]})]}
def Do:Ann:={kinds:=[(14,.S)],no:=[22,38],nl:=[28,30,31,40,44,48,57,66,71],lw:=[14],joins:=[(62,{vals:=[(1,none),(2,none),(3,none),(4,none),(11,some 9),(12,some 1),(15,none),(17,none),(23,none),(24,none),(25,none),(62,none)]})],loops:=[(0,{vals:=[(1,none),(2,none),(3,none),(4,none),(11,some 9),(12,some 1),(23,none),(24,none),(25,none)]})]}
def Dp:Ann:={kinds:=[(5,.S)],no:=[22],nl:=[7,13,15,17,20],lw:=[5],loops:=[(0,{vals:=[(1,none),(3,some 9),(7,none),(8,none),(9,none)]})]}
def Dq:Ann:={kinds:=[(14,.S)],no:=[22,38],nl:=[28,30,31,40,44,48,57,66,71],lw:=[14],joins:=[(62,{vals:=[(1,none),(2,none),(3,none),(4,none),(11,some 12),(12,some 1),(15,none),(17,none),(23,none),(24,none),(25,none),(62,none)]})],loops:=[(0,{vals:=[(1,none),(2,none),(3,none),(4,none),(11,some 12),(12,some 1),(23,none),(24,none),(25,none)]})]}
def Ds:Ann:={kinds:=[(14,.S)],no:=[22,38],nl:=[28,30,31,40,44,48,57,66,71],lw:=[14],joins:=[(62,{vals:=[(1,none),(2,none),(3,none),(4,none),(11,some 3),(12,some 1),(15,none),(17,none),(23,none),(24,none),(25,none),(62,none)]})],loops:=[(0,{vals:=[(1,none),(2,none),(3,none),(4,none),(11,some 3),(12,some 1),(23,none),(24,none),(25,none)]})]}
def Dt:Ann:={no:=[8],nl:=[4,7]}
def Du:Ann:={kinds:=[(8,.S)],no:=[26],nl:=[15,25],lw:=[8],loops:=[(0,{vals:=[(0,none),(6,some 9),(10,none),(11,none),(12,none)]})]}
def Dv:Ann:={nl:=[3]}
def Dw:Ann:={}
def Dx:Ann:={nl:=[3]}
def Dy:Ann:={kinds:=[(10,.S),(15,.H)],hl:=[31],hb:=[14],nl:=[19,31,34,35],lw:=[10]}
def ww:Ann:={}
def Dz:Ann:={iso:=false,kinds:=[(8,.S),(10,.S)],hl:=[17],nl:=[17,19,27,33,35,45,46,50],lw:=[6,8,10],joins:=[(28,{vals:=vN [8,7000,7001],locs:=[(6,7000,0)],lbs:=[(7000,2)]})],ords:=[(1,[0,1,2,3,4,5,6,11,7,8,9,10,12,13])]}
def DC:Ann:={iso:=false,kinds:=[(8,.S),(13,.S)],hl:=[63],nl:=[16,24,27,35,49,50,52,55,63,65,70],lw:=[6,8,13],loops:=[(0,{vals:=vN [0,8,43,44,45,7000,7001],locs:=[(6,7000,0)],lbs:=[(7000,2)]})]}
def DD:Ann:={iso:=false,kinds:=[(10,.S),(11,.S)],no:=[31],nl:=[18,22,30],lw:=[10,11],loops:=[(0,{vals:=[(0,none),(1,none),(8,some 2),(13,none),(14,none),(15,none)]})]}
def DF:Ann:={kinds:=[(7,.H),(10,.S)],hl:=[77,104],ha:=[86],hb:=[7,12],no:=[85],nl:=[14,49,51,52,54,60,63,69,75,77,79,82,83,92,95,97,104],lw:=[4,10],joins:=[(15,{vals:=vN [2,3,6,7,8,14,15,5000,5001],locs:=[(4,5000,0)],lbs:=[(5000,2)]}),(39,{vals:=vN [2,3,6,7,8,14,39,5000,5001],locs:=[(4,5000,0)],lbs:=[(5000,2)]}),(1000000,{vals:=vN [7,8,5000,5001],locs:=[(4,5000,0)],lbs:=[(5000,2)]})],loops:=[(1,{vals:=vN [2,7,8,69,70,71,5000,5001],locs:=[(4,5000,0)],lbs:=[(5000,2)]})]}
def DG:Ann:={}
def DI:Ann:={kinds:=[(4,.S)],nl:=[8,10,17,19],lw:=[4]}
def DJ:Ann:={}
def DK:Ann:={kinds:=[(6,.S)],nl:=[11,16,21,27,31,37,43,45,53,55,60,66],lw:=[6],loops:=[(0,{vals:=vN [1,2,37,38,39]})]}
def DL:Ann:={kinds:=[(5,.S),(8,.S)],nl:=[13,18,22,31,37,39,44,46,51,53,58,61,66,71,76,77],lw:=[5,8],loops:=[(0,{vals:=vN [1,71,72,73]})]}
def DN:Ann:={nl:=[20,24],loops:=[(0,{vals:=vN [0,1,5]})]}
def DO:Ann:={nl:=[15,27,31],loops:=[(0,{vals:=vN [1,2,3,7,8]})]}
def DR:Ann:={nl:=[13,21,33,36],loops:=[(0,{vals:=vN [1,2,3,7,8]})]}
def DT:Ann:={}
def DU:Ann:={hb:=[24],nl:=[14,30],loops:=[(0,{vals:=vN [0,3,9,10,11]}),(2,{vals:=[(6,some 1),(25,none),(26,none),(27,none)]})]}
def DV:Ann:={}
def DW:Ann:={}
def DX:Ann:={nl:=[21,25],loops:=[(0,{vals:=vN [1,2,15,16,17]})]}
def DY:Ann:={hb:=[24],nl:=[14,30],loops:=[(0,{vals:=vN [0,3,9,10,11]}),(2,{vals:=[(6,some 9),(25,none),(26,none),(27,none)]})]}
def DZ:Ann:={}
def D1:Ann:={kinds:=[(8,.S),(9,.S)],nl:=[21,25,27,28],lw:=[8,9],loops:=[(0,{vals:=vN [1,2,15,16,17]})]}
def D2:Ann:={hb:=[24],nl:=[14,30],loops:=[(0,{vals:=vN [0,3,9,10,11]}),(2,{vals:=[(6,some 12),(25,none),(26,none),(27,none)]})]}
def D3:Ann:={}
def D4:Ann:={hb:=[24],nl:=[14,30],loops:=[(0,{vals:=vN [0,3,9,10,11]}),(2,{vals:=[(6,some 3),(25,none),(26,none),(27,none)]})]}
def D5:Ann:={}
def D6:Ann:={kinds:=[(8,.S),(9,.S)],nl:=[21,25,27,28],lw:=[8,9],loops:=[(0,{vals:=vN [1,2,15,16,17]})]}
def D7:Ann:={nl:=[15],loops:=[(0,{vals:=vN [0,1,7,8]})]}
def D8:Ann:={nl:=[6,8]}
def D9:Ann:={nl:=[15],loops:=[(0,{vals:=vN [0,1,7,8]})]}
def Ea:Ann:={iso:=false,kinds:=[(7,.S),(10,.S),(11,.S)],hl:=[21,31,60,81],hb:=[8,39],no:=[51],nl:=[15,21,31,34,36,38,41,46,50,60,62,67,81,83,89,92],lw:=[4,7,8,10,11,53],loops:=[(0,{vals:=[(41,none),(42,none),(43,none),(5000,none),(5001,none),(5002,none),(5003,none),(5004,none),(9000,none),(9001,some 2),(9002,none),(9003,none),(9004,none)],locs:=[(4,5000,0),(8,9000,0)],lbs:=[(5000,5),(9000,5)]})],nils:=[(8,[1])]}
def Eb:Ann:={nl:=[4]}
def yN:Ann:={nl:=[5,6]}
def yO:Ann:={kinds:=[(8,.S),(9,.S),(11,.S)],hb:=[6,21],no:=[52],nl:=[14,16,20,23,28,31,33,40,41,49,50],lw:=[4,6,8,9,11,54],loops:=[(0,{vals:=[(3,none),(23,none),(24,none),(25,none),(5000,none),(5001,none),(7000,none),(7001,some 3)],locs:=[(4,5000,0),(6,7000,0)],lbs:=[(5000,2),(7000,2)]})],nils:=[(6,[1])]}
def yP:Ann:={nl:=[15],loops:=[(0,{vals:=vN [0,1,7,8]})]}
def yQ:Ann:={}
def yR:Ann:={loops:=[(0,{vals:=vN [0,1,5]})]}
def yS:Ann:={}
def yT:Ann:={}
def yU:Ann:={nl:=[6,8,11,16,23,30,36,45,54,58,63,65],lw:=[2,4,17,24,31,37,46,55,66,67],joins:=[(12,{vals:=vN [1,11,12,3000,3001,3002,3003,3004,3005,5000,5001,5002,5003,5004,5005],locs:=[(2,3000,0),(4,5000,0)],lbs:=[(3000,6),(5000,6)]}),(19,{vals:=vN [1,11,19,3000,3001,3002,3003,3004,3005,5000,5001,5002,5003,5004,5005],locs:=[(2,3000,0),(4,5000,0)],lbs:=[(3000,6),(5000,6)]}),(26,{vals:=vN [1,11,26,3000,3001,3002,3003,3004,3005,5000,5001,5002,5003,5004,5005],locs:=[(2,3000,0),(4,5000,0)],lbs:=[(3000,6),(5000,6)]})]}
def yV:Ann:={nl:=[6,10,14,20,24,30,34,39,44,54,59,63,67,73,80,86,96,100,106],joins:=[(47,{vals:=vN [1,6,47]})],loops:=[(1,{vals:=vN [1,80,81,82]})]}
def yW:Ann:={nl:=[6,8,12,14]}
def yX:Ann:={nl:=[15],loops:=[(0,{vals:=vN [0,1,7,8]})]}
def yY:Ann:={nl:=[15],loops:=[(0,{vals:=vN [0,1,7,8]})]}
def yZ:Ann:={nl:=[6,9],ords:=[(1,[0,1,2,4,3,5,6])]}
def y6:Ann:={nl:=[6,7,9],ords:=[(1,[0,1,2,4,3,5,6])]}
def y7:Ann:={nl:=[15],loops:=[(0,{vals:=vN [0,1,7,8]})]}
def y8:Ann:={nl:=[6,7,9],ords:=[(1,[0,1,2,4,3,5,6])]}
def y9:Ann:={nl:=[15],loops:=[(0,{vals:=vN [0,1,7,8]})]}
def za:Ann:={nl:=[6,7,9],ords:=[(1,[0,1,2,4,3,5,6])]}
def zb:Ann:={nl:=[5,7]}
def zc:Ann:={nl:=[15],loops:=[(0,{vals:=vN [0,1,7,8]})]}
def zd:Ann:={nl:=[5,7]}
noncomputable def yv:List (Nat×(Func×Ann)):=[
(3,(Tryz.f3,Gy)),
(4,(Tryz.f4,Ev)),
(5,(Tryz.f5,GA)),
(6,(Tryz.f6,A1)),
(7,(Tryz.f7,GC)),
(8,(Tryz.f8,GD)),
(9,(Tryz.f9,GE)),
(10,(Tryz.f10,Cy)),
(11,(Tryz.f11,Cz)),
(12,(Tryz.f12,Gv)),
(13,(Tryz.f13,Gw)),
(14,(Tryz.f14,Gx)),
(15,(Tryz.f15,CB)),
(16,(Tryz.f16,CE)),
(17,(Tryz.f17,CF)),
(18,(Tryz.f18,CG)),
(19,(Tryz.f19,CH)),
(20,(Tryz.f20,CI)),
(21,(Tryz.f21,CJ)),
(22,(Tryz.f22,CK)),
(23,(Tryz.f23,CL)),
(24,(Tryz.f24,CM)),
(25,(Tryz.f25,CN)),
(26,(Tryz.f26,CO)),
(27,(Tryz.f27,CP)),
(28,(Tryz.f28,CQ)),
(29,(Tryz.f29,CR)),
(30,(Tryz.f30,CS)),
(31,(Tryz.f31,CU)),
(32,(Tryz.f32,CV)),
(33,(Tryz.f33,CW)),
(34,(Tryz.f34,Gz)),
(35,(Tryz.f35,CX)),
(36,(Tryz.f36,CY)),
(37,(Tryz.f37,CZ)),
(38,(Tryz.f38,C0)),
(39,(Tryz.f39,C1)),
(40,(Tryz.f40,C2)),
(41,(Tryz.f41,C4)),
(42,(Tryz.f42,Da)),
(43,(Tryz.f43,Db)),
(44,(Tryz.f44,Dc)),
(45,(Tryz.f45,Dd)),
(46,(Tryz.f46,De)),
(47,(Tryz.f47,Df)),
(48,(Tryz.f48,Dg)),
(49,(Tryz.f49,Dh)),
(50,(Tryz.f50,Di)),
(51,(Tryz.f51,Dj)),
(52,(Tryz.f52,Dk)),
(53,(Tryz.f53,Dl)),
(54,(Tryz.f54,Dm)),
(55,(Tryz.f55,Dn)),
(56,(Tryz.f56,Do)),
(57,(Tryz.f57,Dp)),
(58,(Tryz.f58,Dq)),
(59,(Tryz.f59,Ds)),
(60,(Tryz.f60,Dt)),
(61,(Tryz.f61,Du)),
(62,(Tryz.f62,Dv)),
(63,(Tryz.f63,Dw)),
(64,(Tryz.f64,Dx)),
(65,(Tryz.f65,Dy)),
(68,(Tryz.f68,Dz)),
(69,(Tryz.f69,DC)),
(70,(Tryz.f70,DD)),
(71,(Tryz.f71,DF)),
(72,(Tryz.f72,DG)),
(73,(Tryz.f73,DI)),
(74,(Tryz.f74,DJ)),
(76,(Tryz.f76,DK)),
(77,(Tryz.f77,DL)),
(78,(Tryz.f78,DN)),
(79,(Tryz.f79,DO)),
(80,(Tryz.f80,DR)),
(81,(Tryz.f81,DT)),
(82,(Tryz.f82,DU)),
(83,(Tryz.f83,DV)),
(84,(Tryz.f84,DW)),
(85,(Tryz.f85,DX)),
(86,(Tryz.f86,DY)),
(87,(Tryz.f87,DZ)),
(88,(Tryz.f88,D1)),
(89,(Tryz.f89,D2)),
(90,(Tryz.f90,D3)),
(91,(Tryz.f91,D4)),
(92,(Tryz.f92,D5)),
(93,(Tryz.f93,D6)),
(94,(Tryz.f94,D7)),
(95,(Tryz.f95,D8)),
(96,(Tryz.f96,D9)),
(98,(Tryz.f98,Ea)),
(99,(Tryz.f99,Eb)),
(100,(Tryz.f100,yN)),
(101,(Tryz.f101,yO)),
(102,(Tryz.f102,yP)),
(103,(Tryz.f103,yQ)),
(104,(Tryz.f104,yR)),
(105,(Tryz.f105,yS)),
(106,(Tryz.f106,yT)),
(108,(Tryz.f108,yU)),
(109,(Tryz.f109,yV)),
(110,(Tryz.f110,yW)),
(112,(Tryz.f112,yX)),
(113,(Tryz.f113,yY)),
(114,(Tryz.f114,yZ)),
(116,(Tryz.f116,y6)),
(118,(Tryz.f118,y7)),
(119,(Tryz.f119,y8)),
(121,(Tryz.f121,y9)),
(122,(Tryz.f122,za)),
(124,(Tryz.f124,zb)),
(125,(Tryz.f125,zc)),
(126,(Tryz.f126,zd))]
def wE:List (Nat×(Func×Ann))->Nat->Option (Func×Ann)
 |[],_=>none
 |(k,x):: r,t=>bif Nat.beq k t then some x else wE r t
def own:FuncId->Option Nat:=fun f=>bif Nat.beq f 67 then some 3 else bif Nat.beq f 111 then some 1 else bif Nat.beq f 115 then some 9 else bif Nat.beq f 117 then some 12 else bif Nat.beq f 120 then some 3 else none
noncomputable def other:FuncId->Option ((FuncId->List AV->M AV)->List AV->M AV):=fun f=>
 bif Nat.beq f 66 then some (kj)else bif Nat.beq f 67 then some (iW T 23)else bif Nat.beq f 75 then some (iv)else bif Nat.beq f 111 then some (gM)else bif Nat.beq f 115 then some (gM)else bif Nat.beq f 117 then some (gM)else bif Nat.beq f 120 then some (gM)else none
noncomputable def pg:Pg:={ T:=T,funcs:=wE yv,own:=own,other:=other,nw:=fun f=>  false }
noncomputable def kz(call:FuncId->List AV->M AV):FuncId->List AV->M AV:=fun f args=>bif pg.iso f then bz (call f args)else call f args
def aI:dk pg:=by
 intro f E hE call calls hc;have h0:other f=some E:=hE;unfold other at h0;rcases fI h0 with rfl|h0
 ·exact bA.const _
 rcases fI h0 with rfl|h0
 ·exact uM _ _ _ _
 rcases fI h0 with rfl|h0
 ·exact bA.const _
 rcases fI h0 with rfl|h0
 ·exact bA.const _
 rcases fI h0 with rfl|h0
 ·exact bA.const _
 rcases fI h0 with rfl|h0
 ·exact bA.const _
 rcases fI h0 with rfl|h0
 ·exact bA.const _
 cases h0
end Go.Proofs.YtblddnfanlkgiaaGreat
namespace Go.Proofs.YtblddnfanlkgiaaGreat
open Go Go.Av
set_option maxRecDepth 1000000
instance dr0:Dr:=⟨False⟩
def FC{p:Prop}(h:Dr.on):p:=False.elim h
def FQ:(tab.map fun x=>FS Tryz.prog x.1)=tab.map fun x=>some x.2:=by kernel_rfl
theorem qE:(l:List (Nat×TI))->(t:Nat)->(ti:TI)->wF l t=some ti->(t,ti)∈l
 |[],t,ti,h=>by cases h
 | (k,x):: r,t,ti,h=>by
  simp only[wF]at h;cases hk:Nat.beq k t with
  |true=>
   rw[hk]at h;simp only[JM,JK]at h
   have:=J2 hk
   subst this h;exact KX
  |false=>
   rw[hk]at h;exact KW _ (qE r t ti h)
theorem i6{α β:Type}{f g:α->β}:{l:List α} ->l.map f=l.map g->∀x∈l,f x=g x
 |[],_,x,hx=>by cases hx
 |a:: l,h,x,hx=>by
  simp only[Ks,Lv]at h;rcases Kc.1 hx with rfl|hx
  ·exact h.1
  ·exact i6 h.2 x hx
def tok:TOK Tryz.prog T:=⟨fun t ti h=>i6 FQ (t,ti) (qE tab t ti h),by kernel_rfl⟩
def Ct:(yv.map fun x=>Tryz.prog.funcs[x.1]?)=yv.map fun x=>some x.2.1:=by kernel_rfl
def wj:(yv.map fun x=>x.2.1.name== "runtime.NumGoroutine")=yv.map fun _=>false:=by kernel_rfl
theorem qD:(l:List (Nat×(Func×Ann)))->(t:Nat)->(x:Func×Ann)->wE l t=some x->(t,x)∈l
 |[],t,ti,h=>by cases h
 | (k,x):: r,t,ti,h=>by
  simp only[wE]at h;cases hk:Nat.beq k t with
  |true=>
   rw[hk]at h;simp only[JM,JK]at h
   have:=J2 hk
   subst this h;exact KX
  |false=>
   rw[hk]at h;exact KW _ (qD r t ti h)
def zO:∀f fn a,pg.funcs f=some (fn,a)->Tryz.prog.funcs[f]? = some fn/\(fn.name== "runtime.NumGoroutine")=false:=by
 intro f fn a h
 have:=qD yv f (fn,a) h
 exact⟨i6 Ct _ this,i6 wj _ this⟩
end Go.Proofs.YtblddnfanlkgiaaGreat
namespace Go.Proofs.YtblddnfanlkgiaaGreat
open Go Go.Av Go.RowKit
set_option maxRecDepth 100000
def xj{S:aL}{β:List bS}{s:List UInt8}{r:List Value}{l:List AV}(hv:bw S β (.str s:: l) r):∃x r',r= .string x:: r'/\x.data.toList=s/\bw S β l r':=by
 simp only[bw,VR]at hv;obtain⟨v,r',rfl,⟨x,rfl,hx⟩,h⟩:=hv;exact⟨x,r',rfl,hx,h⟩
def He(call:FuncId->List AV->M AV)(args:List AV)(h:Hp)(S:aL)(β:List bS)(w:World)(vs:List Value)(hr:iv call args h≠.fail)(hg:yA β h w)(hw:Wf S w)(hh:dV S β w h)(hv:bw S β args vs):
  Calls Tryz.prog 75 vs.toArray w (gX none S β h w (iv call args h)):=by
 unfold iv at hr |-;split at hr
 ·rename_i s t;obtain⟨x,r,rfl,hx,hv⟩:=xj hv;obtain⟨y,r,rfl,hy,hv⟩:=xj hv;simp only[bw]at hv;subst hv;cases hc:decide (s.length<4294967281)with
  |false=>rw[hc]at hr;exact absurd rfl hr
  |true=>
   simp only[JM];have hlen:x.size=s.length:=by rw[<- hx,KY];rfl
   obtain⟨m,hm⟩:=hg.1.max;refine (Any.strings_Contains JF x y m w (by have:=Mk hc;omega) hm).mono ?_;rintro e w' ⟨rfl,rfl⟩;exact m8 hw hh (Below.refl _ _) FC (by simp only[VR];rw[hx,hy])
 ·exact absurd rfl hr
end Go.Proofs.YtblddnfanlkgiaaGreat
namespace Go.Proofs.YtblddnfanlkgiaaGreat
open Go Go.Av Go.RowKit Go.Shelf
attribute [local go_sem] Oper.semAt_some
abbrev dc:=ByteArray×Int×(Option Addr×Nat×Nat)
def dc.k(x:dc):Value:=.int .i64 x.2.1
def dc.f(x:dc):Value:=.slice x.2.2.1 x.2.2.2.1 x.2.2.2.2
def yn(x:dc):Value:=.agg #[.string x.1,x.k,x.f]
def back(zs:List dc)(k:Nat):List (Nat×dc):=(List.range k).map fun j=>(zs.length-1-j,zs[zs.length-1-j]?.getD default)
def qv(zs:List dc)(k:Nat):back zs (k+1)=back zs k++[(zs.length-1-k,zs[zs.length-1-k]?.getD default)]:=by simp[back,List.range_succ]
def sS(zs:List dc)(k:Nat):(back zs k).length=k:=by simp[back]
def od(W:World)(b off:Nat)(zs:List dc):Prop:=∀j,j<zs.length->W.cell? ⟨b,off+j*3,none⟩=some (.string (zs[j]?.getD default).1)/\W.cell? ⟨b,off+j*3+1,none⟩=some (zs[j]?.getD default).k/\W.cell? ⟨b,off+j*3+2,none⟩=some (zs[j]?.getD default).f
def od.below{n₀:Nat}{A B:World}(h:Below n₀ A B){b off:Nat}(hb:b<n₀){zs:List dc}(c:od A b off zs):od B b off zs:=fun j hj=>by
 obtain⟨h1,h2,h3⟩:=c j hj;exact⟨(h.cell (p:=⟨b,_,none⟩) hb).trans h1,(h.cell (p:=⟨b,_,none⟩) hb).trans h2,(h.cell (p:=⟨b,_,none⟩) hb).trans h3⟩
set_option maxRecDepth 100000 in
set_option maxHeartbeats 2000000 in
def EW(F:Fence)(n:Nat)(h7:F.fn 123)(hro:F.round=none)(hn:1<=n)(l Bs n₀ b off cap:Nat)(zs:List dc)(hreach:zs.length<=1000000000)(hb:b<n₀)(hBn:Bs<n₀)(J Jx:List (Nat×dc)->World->Prop)
  (hY:∀pre x W,J pre W->pre.length<zs.length->YieldAt F (n-1) Tryz.prog l #[.int .i64 (x.1:Int),yn x.2] W fun e W'=>
   (e= .returned (.bool true)/\J (pre++[x]) W'/\Below n₀ W W')\/(e= .returned (.bool false)/\Jx (pre++[x]) W'))
  (W:World) (hBs:W.cell? ⟨Bs,0,none⟩=some (.slice (some ⟨b,off,none⟩) zs.length cap)) (hc:od W b off zs) (h0:J [] W):
  CallsIn F n Tryz.prog 123 #[.func (.yield l) #[] #[],.pointer (some ⟨Bs,0,none⟩)] W fun e W'=>(∃v,e= .returned v)/\
   ((∃ys,ys=back zs zs.length/\J ys W')\/(∃pre,(∃k,k<=zs.length/\pre=back zs k)/\Jx pre W')):=by
 refine callsIn_of_wp Tryz.func123 rfl h7 ?_ hro;simp only[Tryz.ntmps123,K4,Ke,J8,Nat.reduceAdd,Nat.reduceSub,LL,LM,LZ,LO,Kt,Kr]
 gi_wp2
 gi_loopw [3] (fun i wr=>∃k:Nat,k<=zs.length/\i= .int .i64 ((zs.length:Int)-1-k)/\J (back zs k) wr/\Below n₀ W wr)
  (fun i _=>(intOf i+1).toNat)
 case atStart=>exact⟨0,Ki _,by simp,h0,Below.refl _ _⟩
 case round=>
  obtain⟨k,hk,rfl,hJs,hnx⟩:=hrel;have hbs:wr.cell? ⟨Bs,0,none⟩=some (.slice (some ⟨b,off,none⟩) zs.length cap):=(hnx.cell (p:=⟨Bs,0,none⟩) hBn).trans hBs;by_cases hlt:k<zs.length
  ·obtain⟨fn,tmps,assign,body,hy,hR⟩:=hY _ (zs.length-1-k,zs[zs.length-1-k]?.getD default) wr hJs (by rw[sS];exact hlt);dsimp only at hy;obtain⟨m,hm⟩:∃m:Nat,(zs.length:Int)-1-k=m:=⟨zs.length-1-k,by omega⟩;have hm':zs.length-1-k=m:=by omega
   rw[hm']at hy hR;rw[hm];obtain⟨c1,c2,c3⟩:=(hc.below hnx hb) m (by omega);generalize hz:zs[m]?.getD default=z at hy hR c1 c2 c3;obtain⟨z1,z2,z3,z4,z5⟩:=z;have hml:m<zs.length:=by omega
   simp only[yn,dc.k,dc.f]at hy c2 c3
   gi_wp2
   refine hR.mono ?_;rintro e W3 (⟨rfl,hJ3,hk3⟩|⟨rfl,hJx3⟩)
   ·gi_wp2
    go_roundw
    case rel=>exact⟨k+1,by omega,by congr 1;omega,by rw[qv,hm',hz];exact hJ3,hnx.trans hk3⟩
    case measure=>simp[intOf]<;>omega
   ·gi_wp2
    refine bodyPost_ret (results_none rfl _ _ _) rfl ?_;exact⟨⟨_,rfl⟩,.inr ⟨_,⟨k+1,by omega,by rw[qv,hm',hz]⟩,hJx3⟩⟩
  ·obtain rfl:k=zs.length:=by omega
   gi_wp2
   go_end0
   exact⟨⟨_,rfl⟩,.inl ⟨_,rfl,hJs⟩⟩
set_option maxRecDepth 100000 in
set_option maxHeartbeats 1000000 in
def vu(F:Fence)(n:Nat)(h7:F.fn 123)(hro:F.round=none)(l Bs:Nat)(p:Option Addr)(cap:Nat)(J:List (Nat×dc)->World->Prop)(W:World)(hBs:W.cell? ⟨Bs,0,none⟩=some (.slice p 0 cap))(h0:J [] W):
  CallsIn F n Tryz.prog 123 #[.func (.yield l) #[] #[],.pointer (some ⟨Bs,0,none⟩)] W fun e W'=>(∃v,e= .returned v)/\J [] W':=by
 refine callsIn_of_wp Tryz.func123 rfl h7 ?_ hro;simp only[Tryz.ntmps123,K4,Ke,J8,Nat.reduceAdd,Nat.reduceSub,LL,LM,LZ,LO,Kt,Kr]
 gi_wp2
 gi_loopw [3] (fun i wr=>i= .int .i64 (-1)/\J [] wr) (fun _ _=>0)
 case atStart=>exact⟨rfl,h0⟩
 case round=>
  obtain⟨rfl,hJs⟩:=hrel
  gi_wp2
  go_end0
  exact⟨⟨_,rfl⟩,hJs⟩
set_option maxHeartbeats 1000000 in
def G5(F:Fence)(n:Nat)(h5:F.fn 97)(hro:F.round=none)(a:Option Addr)(len cap:Nat)(w:World):
  CallsIn F n Tryz.prog 97 #[.slice a len cap] w fun e w'=>e= .returned (.func (.func 123) #[] #[.pointer (some ⟨w.heap.size,0,none⟩)])/\w'=w.alloc (.cells #[.slice a len cap] 23):=by
 refine callsIn_of_wp Tryz.func97 rfl h5 ?_ hro;simp only[Tryz.ntmps97,K4,Ke,J8,Nat.reduceAdd,Nat.reduceSub,LL,LM,LZ,LO,Kt,Kr]
 gi_wp2
 go_ret
 exact⟨rfl,rfl⟩
def lj(n₀:Nat)(W:World)(sv:Value)(zs:List dc):Prop:=
 (zs=[]/\∃p cap,sv= .slice p 0 cap)\/∃b off cap,sv= .slice (some ⟨b,off,none⟩) zs.length cap/\b<n₀/\od W b off zs
theorem lj.below{n₀:Nat}{A B:World}(h:Below n₀ A B){sv:Value}{zs:List dc}:lj n₀ A sv zs->lj n₀ B sv zs
 |.inl e=>.inl e
 |.inr ⟨b,off,cap,e,hb,hc⟩=>.inr ⟨b,off,cap,e,hb,hc.below h hb⟩
theorem lj.mono{n n':Nat}(h:n<=n'){W:World}{sv:Value}{zs:List dc}:lj n W sv zs->lj n' W sv zs
 |.inl e=>.inl e
 |.inr ⟨b,off,cap,e,hb,hc⟩=>.inr ⟨b,off,cap,e,KB hb h,hc⟩
def zV(F:Fence)(n:Nat)(h8:F.fn 123)(hro:F.round=none)(hn:1<=n)(Bs:Nat)(sv:Value)(zs:List dc)(hreach:zs.length<=1000000000)(w:World)(hBs:Bs<w.heap.size)(hc:w.cell? ⟨Bs,0,none⟩=some sv)(hI:lj w.heap.size w sv zs):
  SeqStopsK F n Tryz.prog 123 #[.pointer (some ⟨Bs,0,none⟩)] (fun x:Nat×dc=>#[Value.int .i64 (x.1:Int),yn x.2]) (Below w.heap.size) (fun ys=>ys=back zs zs.length)
   (fun pre=>∃k,k<=zs.length/\pre=back zs k) zs.length w:=fun l J Jx W hW _ _ hY h0=>by
 have hc':=(hW.cell (p:=⟨Bs,0,none⟩) hBs).trans hc;rcases hI.below hW with⟨rfl,p,cap,rfl⟩|⟨b,off,cap,rfl,hb,hcs⟩
 ·exact (vu F n h8 hro l Bs p cap J W hc' h0).mono fun e W' ⟨he,hj⟩=>⟨he,.inl ⟨_,rfl,hj⟩⟩
 ·exact EW F n h8 hro hn l Bs w.heap.size b off cap zs hreach hb hBs J Jx hY W hc' hcs h0
def mD(zs:List dc)(x:ByteArray):Option dc:=zs.reverse.find? fun z=>decide (z.1=x)
def rQ(zs:List dc)(x:ByteArray)(z0 z1:Value):Value:=match mD zs x with
 |some z=>.tuple #[.agg #[z.k,z.f],.bool true]
 |none=>.tuple #[.agg #[z0,z1],.bool false]
def sT(zs:List dc){k:Nat}(hk:k<=zs.length):(back zs k).map (·.2)=zs.reverse.take k:=by
 apply List.ext_getElem
 ·simp[back,hk]
 ·intro i h1 h2;have hi:i<k:=by simpa [back]using h1
  have h3:zs.length-1-i<zs.length:=by omega
  simp[back,h3]
def tC{zs:List dc}{x:ByteArray}(h:∀p∈back zs zs.length,p.2.1≠x):mD zs x=none:=by
 unfold mD;rw[LU];intro z hz;have hm:=sT zs (JO _);rw[Lu (by simp)]at hm;rw[<- hm]at hz;obtain⟨p,hp,rfl⟩:=Kq.1 hz;simpa using h p hp
def tD{zs:List dc}{x:ByteArray}{k:Nat}(hk:k<=zs.length){ini:List (Nat×dc)}{last:Nat×dc}(e1:back zs k=ini++[last])(e2:∀p∈ini,p.2.1≠x)(e3:last.2.1=x):mD zs x=some last.2:=by
 have hm:=sT zs hk;rw[e1,Lo]at hm;unfold mD;rw[<- List.take_append_drop k zs.reverse,<- hm,KL,Mj];have h1:(ini.map (·.2)).find? (fun z=>decide (z.1=x))=none:=by
  rw[LU];intro z hz;obtain⟨p,hp,rfl⟩:=Kq.1 hz;simpa using e2 p hp
 rw[h1];simp[e3]
def cI(W:World)(B:Nat)(t:TypeId)(cs:Array Value):Prop:=W.heap[B]? = some (.cells cs t (0,0))
def cI.lt{W:World}{B:Nat}{t:TypeId}{cs:Array Value}(h:cI W B t cs):B<W.heap.size:=(KA.1 h).1
def cI.cell{W:World}{B:Nat}{t:TypeId}{cs:Array Value}(h:cI W B t cs)(o:Nat):W.cell? ⟨B,o,none⟩=cs[o]?:=by simp[World.cell?,show W.heap[B]? = _ from h]
def cI.frozen{W:World}{B:Nat}{t:TypeId}{cs:Array Value}(h:cI W B t cs)(o:Nat):W.frozen? ⟨B,o,none⟩=false:=by simp[World.frozen?,show W.heap[B]? = _ from h]
def cI.new(W:World)(t:TypeId)(cs:Array Value):cI (W.alloc (.cells cs t)) W.heap.size t cs:=World.alloc_heap_new W _
def cI.kept{W W':World}{row:Option Nat}{B:Nat}{t:TypeId}{cs:Array Value}(h:cI W B t cs)(hg:W.grownBy W' row)(hne:some B≠row):cI W' B t cs:=(hg.block B h.lt hne).trans h
def cI.alloc{W:World}{B:Nat}{t:TypeId}{cs:Array Value}(h:cI W B t cs)(o:Obj):cI (W.alloc o) B t cs:=h.kept (World.grownBy_alloc W o none) (by simp)
def cI.put{W:World}{B:Nat}{t:TypeId}{cs:Array Value}(h:cI W B t cs){l:Nat}{o:Obj}(o':Obj)(hl:W.heap[l]? = some o)(ho:o.isCells=false):cI (W.putObj l o') B t cs:=
 h.kept (grownBy_putObj' W l o') (fun e=>by cases e;rw[show W.heap[B]? = _ from h]at hl;cases hl;cases ho)
def qg(W:World)(b o:Nat)(v:Value):W.grownBy (W.setCell ⟨b,o,none⟩ v) (some b):=
 ⟨rfl,rfl,rfl,(KeepsWalks.setCell W _ v).size,fun k _ hk=>Below.heap_setCell _ _ _ k (fun e=>hk (by rw[e]))⟩
def cI.other{W:World}{B B' o:Nat}{t:TypeId}{cs:Array Value}(h:cI W B t cs)(hne:B≠B')(u:Value):cI (W.setCell ⟨B',o,none⟩ u) B t cs:=h.kept (qg W B' o u) (fun e=>hne (by cases e;rfl))
def cI.set{W:World}{B:Nat}{t:TypeId}{cs:Array Value}(h:cI W B t cs)(o:Nat)(v:Value):cI (W.setCell ⟨B,o,none⟩ v) B t (cs.setIfInBounds o v):=by
 obtain⟨hlt,hk⟩:=KA.1 h;show (W.heap.modify B _)[B]? = _;rw[KV (by rw[Array.size_modify];exact hlt),Array.getElem_modify_self,hk];rfl
def zm{x y:ByteArray}(h:(x.toList== y.toList)=true):x=y:=by
 have:=Kw.1 h
 rw[ByteArray.toList_eq,ByteArray.toList_eq]at this;exact ByteArray.ext (Lt this)
def zn{x y:ByteArray}(h:(x.toList== y.toList)=false):x≠y:=by
 rintro rfl;simp at h
def fM{β:Type}(B:Nat)(t:TypeId)(f:β->Array Value):Own (fun s W=>cI W B t (f s)):=fun s X Y row hs hg hrow=>
 hs.kept hg (fun e'=>by obtain⟨o,ho,hc⟩:=hrow B e'.symm;rw[show X.heap[B]? = _ from hs]at ho;cases ho;cases hc)
set_option maxRecDepth 100000 in
set_option maxHeartbeats 4000000 in
def BL(F:Fence)(n:Nat)(h3:F.fn 66)(h5:F.fn 97)(h7:F.fn 123)(hro:F.round=none)(hn:3<=n)(a:Option Addr)(len cap:Nat)(x:ByteArray)(zs:List dc)(hreach:zs.length<=1000000000)(w:World)(hI:lj w.heap.size w (.slice a len cap) zs):
  CallsIn F n Tryz.prog 66 #[.slice a len cap,.string x] w fun e W'=>e= .returned (rQ zs x (.int .i64 0) (.slice none 0 0))/\Below w.heap.size w W':=by
 have h1:1<=n:=by omega
 refine callsIn_of_wp_marks Tryz.func66 rfl h3 ?_ hro;simp only[Tryz.ntmps66,K4,Ke,J8,Nat.reduceAdd,Nat.reduceSub,LL,LM,LZ,LO,Kt,Kr]
 gi_wp2_with (gi_at_call 97;refine (G5 F (n-1) h5 hro _ _ _ _).mono ?_;rintro e w' ⟨rfl,rfl⟩)
 have b0:=(((cI.new w 9 #[.string x]).alloc (.cells #[.int .i64 0,.slice none 0 0] 44)).alloc (.cells #[.bool false] 4)).alloc (.cells #[.slice a len cap] 23);have b1:=((cI.new (w.alloc (.cells #[.string x] 9)) 44 #[.int .i64 0,.slice none 0 0]).alloc (.cells #[.bool false] 4)).alloc (.cells #[.slice a len cap] 23);have b2:=(cI.new ((w.alloc (.cells #[.string x] 9)).alloc (.cells #[.int .i64 0,.slice none 0 0] 44)) 4 #[.bool false]).alloc (.cells #[.slice a len cap] 23);have b3:=cI.new (((w.alloc (.cells #[.string x] 9)).alloc (.cells #[.int .i64 0,.slice none 0 0] 44)).alloc (.cells #[.bool false] 4)) 23 #[.slice a len cap];simp only[World.size_alloc]at b1 b2 b3;have hB0:Below w.heap.size w ((((w.alloc (.cells #[.string x] 9)).alloc (.cells #[.int .i64 0,.slice none 0 0] 44)).alloc (.cells #[.bool false] 4)).alloc (.cells #[.slice a len cap] 23)):=
  ((((Below.refl _ w).alloc (JO _) _).alloc (by simp) _).alloc (by simp;omega) _).alloc (by simp;omega) _
 have hsz:((((w.alloc (.cells #[.string x] 9)).alloc (.cells #[.int .i64 0,.slice none 0 0] 44)).alloc (.cells #[.bool false] 4)).alloc (.cells #[.slice a len cap] 23)).heap.size=w.heap.size+4:=by simp
 obtain⟨W0,hW0⟩:∃W0,((((w.alloc (.cells #[.string x] 9)).alloc (.cells #[.int .i64 0,.slice none 0 0] 44)).alloc (.cells #[.bool false] 4)).alloc (.cells #[.slice a len cap] 23))=W0:=⟨_,rfl⟩;rw[hW0]at b0 b1 b2 b3 hB0 hsz |-;clear hW0;refine wpIn_rangeFunc_ownH hro h1 (gf:=123) (lb:=#[.pointer (some ⟨w.heap.size+1+1+1,0,none⟩)]) rfl h7 (enters_of Tryz.func123 (by kernel_rfl) rfl)
  (zV F (n-1) h7 hro (by omega) (w.heap.size+1+1+1) _ zs hreach W0 (by omega) (b3.cell 0) ((hI.below hB0).mono (by omega))) belowK_t (belowK_b (JO _)) (Below.refl _ _) (fun _=>rfl)
  (fun pre W=>(∀p∈pre,p.2.1≠x)/\(cI W w.heap.size 9 #[.string x]/\cI W (w.heap.size+1) 44 #[.int .i64 0,.slice none 0 0]/\cI W (w.heap.size+1+1) 4 #[.bool false]/\cI W (w.heap.size+1+1+1) 23 #[.slice a len cap])/\Below w.heap.size w W)
  (fun c pre W=>(c= .ret/\∃ini last,pre=ini++[last]/\(∀p∈ini,p.2.1≠x)/\last.2.1=x/\cI W (w.heap.size+1) 44 #[last.2.k,last.2.f]/\cI W (w.heap.size+1+1) 4 #[.bool true])/\Below w.heap.size w W)
  ?hI ?hIx ⟨fun _ h=>(by cases h),⟨b0,b1,b2,b3⟩,hB0⟩
  (fun y a' W=>∃Bx,cI W Bx 51 #[.string y.2.1,y.2.k,y.2.f]/\a'= { tmps:=#[.slice a len cap,.string x,undef,.pointer (some ⟨w.heap.size,0,none⟩),.pointer (some ⟨w.heap.size+1,0,none⟩),.pointer (some ⟨w.heap.size+1+1,0,none⟩),undef,.pointer (some ⟨Bx,0,none⟩),.slice a len cap,.func (.func 123) #[] #[.pointer (some ⟨w.heap.size+1+1+1,0,none⟩)],.int .i64 (y.1:Int),yn y.2,undef,undef,undef,undef,undef,undef,undef],defers:=[] })
  (fun y a' _ X Y row hs hg hr=>by obtain⟨Bx,h2,h3⟩:=hs;exact⟨Bx,fM Bx 51 (fun(_:Unit)=>#[Value.string y.2.1,y.2.k,y.2.f]) () X Y row h2 hg (fun r e=>(hr r e).2),h3⟩)
  ?assign ?body ?done ?stop
 case hI=>exact OwnFrom.and (ownFrom_pure _ _) (OwnFrom.and (OwnFrom.and (Own.from (fM _ _ _) _) (OwnFrom.and (Own.from (fM _ _ _) _) (OwnFrom.and (Own.from (fM _ _ _) _) (Own.from (fM _ _ _) _)))) (ownFrom_below (JO _) (by omega)))
 case hIx=>
  intro c;refine OwnFrom.and (Own.from (fun s A B row hs hg hr=>?_) _) (ownFrom_below (JO _) (by omega));obtain⟨hc,ini,last,e1,e2,e3,e4,e5⟩:=hs;exact⟨hc,ini,last,e1,e2,e3,fM _ _ (fun(_:Unit)=>#[last.2.k,last.2.f]) () A B row e4 hg hr,fM _ _ (fun(_:Unit)=>#[Value.bool true]) () A B row e5 hg hr⟩
 case assign=>
  rintro l pre y W K ⟨hp,⟨r0,r1,r2,r3⟩,hB⟩ hK;obtain⟨yi,y1,y2,y3,y4,y5⟩:=y;simp only[yn,dc.k,dc.f]at hK |-
  gi_wp2
  exact hK _ _ ((KeepsOthers.alloc _ _).from _) ((Below.refl _ W).alloc (by have:=r3.lt;omega) _) ⟨hp,⟨r0.alloc _,r1.alloc _,r2.alloc _,r3.alloc _⟩,hB.alloc hB.size _⟩ ⟨W.heap.size,cI.new W _ _,rfl⟩
 case body=>
  rintro l pre y a' W hl ⟨r,hr⟩ ⟨hp,⟨r0,r1,r2,r3⟩,hB⟩ ⟨Bx,rx,rfl⟩ hlt;obtain⟨yi,y1,y2,y3,y4,y5⟩:=y;simp only[yn,dc.k,dc.f]at rx |-;have c0:=r0.cell 0;have Br:=rx.cell 0;have cx1:=rx.cell 1;have cx2:=rx.cell 2;have f10:=r1.frozen 0;have f11:=r1.frozen 1;have f20:=r2.frozen 0;have c10:=r1.cell 0;have c11:=r1.cell 1;have c20:=r2.cell 0;simp at c0 Br cx1 cx2 c10 c11 c20
  gi_wp2
  ·have hx:y1=x:=zm (by assumption);have r1':=((r1.set 0 (.int .i64 y2)).set 1 (.slice y3 y4 y5)).other (B':=w.heap.size+1+1) (o:=0) (by omega) (.bool true);have r2':=((r2.other (B':=w.heap.size+1) (o:=0) (by omega) (.int .i64 y2)).other (B':=w.heap.size+1) (o:=1) (by omega) (.slice y3 y4 y5)).set 0 (.bool true);exact⟨(((KeepsOthers.setCell _ _ _).trans (KeepsOthers.setCell _ _ _)).trans (KeepsOthers.setCell _ _ _)).from _,⟨rfl,pre,(yi,y1,y2,y3,y4,y5),rfl,hp,hx,r1',r2'⟩,
    ((hB.setCell (p:=⟨w.heap.size+1,0,none⟩) (by simp) _).setCell (p:=⟨w.heap.size+1,1,none⟩) (by simp) _).setCell (p:=⟨w.heap.size+1+1,0,none⟩) (by simp;omega) _⟩
  ·have hx:y1≠x:=zn (by assumption);exact⟨KeepsFrom.refl _ _,Below.refl _ _,fun p hp'=>(J3.1 hp').elim (hp p) (fun e=>by simp at e;subst e;exact hx),⟨r0,r1,r2,r3⟩,hB⟩
 case done=>
  rintro D ys W hD rfl ⟨hne,⟨r0,r1,r2,r3⟩,hB⟩ hK;have f10:=r1.frozen 0;have f11:=r1.frozen 1;have f20:=r2.frozen 0;have c10:=r1.cell 0;have c11:=r1.cell 1;have c20:=r2.cell 0;simp at c10 c11 c20
  gi_wp2
  have r1':=((r1.set 0 (.int .i64 0)).set 1 (.slice none 0 0)).other (B':=w.heap.size+1+1) (o:=0) (by omega) (.bool false);have r2':=((r2.other (B':=w.heap.size+1) (o:=0) (by omega) (.int .i64 0)).other (B':=w.heap.size+1) (o:=1) (by omega) (.slice none 0 0)).set 0 (.bool false);have hB':=((hB.setCell (p:=⟨w.heap.size+1,0,none⟩) (by simp) (.int .i64 0)).setCell (p:=⟨w.heap.size+1,1,none⟩) (by simp) (.slice none 0 0)).setCell (p:=⟨w.heap.size+1+1,0,none⟩) (by simp;omega) (.bool false);have hK':=(((KeepsOthers.setCell W ⟨w.heap.size+1,0,none⟩ (.int .i64 0)).trans (KeepsOthers.setCell _ ⟨w.heap.size+1,1,none⟩ (.slice none 0 0))).trans (KeepsOthers.setCell _ ⟨w.heap.size+1+1,0,none⟩ (.bool false))).same D _ hK rfl;refine⟨by simp,.inl ⟨_,_,rfl,run_takeDeferred hK',?_⟩⟩;have q10:=(r1'.put (.deferred none) hK' rfl).cell 0;have q11:=(r1'.put (.deferred none) hK' rfl).cell 1;have Ce:=(r2'.put (.deferred none) hK' rfl).cell 0;simp at q10 q11 Ce;refine⟨.tuple #[.agg #[.int .i64 0,.slice none 0 0],.bool false],?_,?_,hB'.trans (belowK_b (w:=w) (JO _) _ D _ _ (by omega) hK' rfl rfl)⟩
  rotate_left
  ·unfold rQ;rw[tC hne]
  ·simp[results,Tryz.f66,go_sem,q10,q11,Ce]
 case stop=>
  rintro D c pre W hD ⟨k,hk,rfl⟩ ⟨⟨rfl,ini,last,e1,e2,e3,r1,r2⟩,hB⟩ hK
  gi_wp2
  refine⟨by simp,.inl ⟨_,_,rfl,run_takeDeferred hK,?_⟩⟩;have q10:=(r1.put (.deferred none) hK rfl).cell 0;have q11:=(r1.put (.deferred none) hK rfl).cell 1;have Ce:=(r2.put (.deferred none) hK rfl).cell 0;simp at q10 q11 Ce;refine⟨.tuple #[.agg #[last.2.k,last.2.f],.bool true],?_,?_,hB.trans (belowK_b (w:=w) (JO _) W D _ _ (by omega) hK rfl rfl)⟩
  rotate_left
  ·unfold rQ;rw[tD hk e1 e2 e3]
  ·simp[results,Tryz.f66,go_sem,q10,q11,Ce]
end Go.Proofs.YtblddnfanlkgiaaGreat
namespace Go.Proofs.YtblddnfanlkgiaaGreat
open Go Go.Av Go.RowKit
set_option maxRecDepth 100000
def Gj(S:aL)(β:List bS)(y:List UInt8×Int×List AV)(z:dc):Prop:=z.1.data.toList=y.1/\z.2.1=y.2.1/\VR S β (.sl y.2.2) z.f
def jw(S:aL)(β:List bS):List (List UInt8×Int×List AV)->List dc->Prop
 |[],zs=>zs=[]
 |y:: l,zs=>∃z r,zs=z:: r/\Gj S β y z/\jw S β l r
theorem jw.length{S:aL}{β:List bS}:{l:List (List UInt8×Int×List AV)} ->{zs:List dc} ->jw S β l zs->zs.length=l.length
 |[],_,h=>by simp only[jw]at h;simp[h]
 |y:: l,zs,h=>by
  simp only[jw]at h;obtain⟨z,r,rfl,_,h⟩:=h;simp[jw.length h]
def xP{e:AV}{y:List UInt8×Int×List AV}(h:tf e=some y):e= .agg [.str y.1,.int .i64 y.2.1,.sl y.2.2]:=by
 unfold tf at h;split at h
 ·cases h;rfl
 ·cases h
theorem GU{S:aL}{β:List bS}{b sz:Nat}:(es:List AV)->(off:Nat)->(l:List (List UInt8×Int×List AV))->bP S β es b off sz->fF es=some l->
  ∃zs:List dc,jw S β l zs/\∀j,j<zs.length->S b (off+j*3)=some (.string (zs[j]?.getD default).1)/\S b (off+j*3+1)=some (zs[j]?.getD default).k/\S b (off+j*3+2)=some (zs[j]?.getD default).f
 |[],off,l,_,h=>by
  simp only[fF,JK]at h;subst h;exact⟨[],rfl,fun j hj=>by simp at hj⟩
 | e :: es,off,l,he,h=>by
  simp only[fF]at h;cases h1:tf e with
  |none=>rw[h1]at h;cases h
  | some y=>
   cases h2:fF es with
   |none=>rw[h1,h2]at h;cases h
   | some l'=>
    rw[h1,h2]at h;simp only[JK]at h;subst h;simp only[bP]at he;obtain⟨⟨v,hv,hs,hc⟩,he⟩:=he
    have:=xP h1
    subst this;simp only[VR,bw]at hv;obtain⟨vs,rfl,_,_,rfl,⟨x,rfl,hx⟩,_,_,rfl,rfl,v3,_,rfl,hv3,rfl⟩:=hv;obtain⟨p,cap,hp,hq1,hq2,hq3⟩:=hv3;subst hp;have hsz:sz=3:=by rw[<- hs];rfl
    subst hsz;obtain⟨zs,hR,hZ⟩:=GU es (off+3) l' he h2;have c0:=hc 0 _ rfl;have c1:=hc 1 _ rfl;have c2:=hc 2 _ rfl;refine⟨(x,y.2.1,(p,y.2.2.length,cap)):: zs,⟨_,_,rfl,⟨hx,rfl,by simp only[dc.f,VR];exact⟨p,cap,rfl,hq1,hq2,hq3⟩⟩,hR⟩,fun j hj=>?_⟩;cases j with
    |zero=>exact⟨by simpa using c0,by simpa [dc.k]using c1,by simpa [dc.f]using c2⟩
    |succ j=>
     have:=hZ j (by simpa using hj)
     rw[show off+3+j*3=off+(j+1)*3 by omega]at this;simpa using this
theorem lJ{S:aL}{β:List bS}{x:ByteArray}{name:List UInt8}(hx:x.data.toList=name):{l:List (List UInt8×Int×List AV)} ->{zs:List dc} ->jw S β l zs->
  (bN (fun z=>z.1== name) l=none/\bN (fun z:dc=>decide (z.1=x)) zs=none)\/∃y z,bN (fun z=>z.1== name) l=some y/\bN (fun z:dc=>decide (z.1=x)) zs=some z/\Gj S β y z
 |[],zs,h=>by simp only[jw]at h;subst h;exact .inl ⟨rfl,rfl⟩
 | y :: l,zs,h=>by
  simp only[jw]at h;obtain⟨z,r,rfl,hz,h⟩:=h;rcases lJ hx h with⟨h1,h2⟩|⟨y',z',h1,h2,h3⟩
  ·have he:(y.1== name)=decide (z.1=x):=by
    rw[<- hz.1,<- hx];by_cases h:z.1=x
    ·subst h;simp
    ·have h':z.1.data.toList≠x.data.toList:=fun h'=>h (ByteArray.ext (Lt h'));rw[decide_eq_false h];exact J4.2 h'
   simp only[bN,h1,h2,he];cases decide (z.1=x)with
   |true=>exact .inr ⟨y,z,rfl,rfl,hz⟩
   |false=>exact .inl ⟨rfl,rfl⟩
  ·simp only[bN,h1,h2];exact .inr ⟨_,_,rfl,rfl,h3⟩
def Hc(call:FuncId->List AV->M AV)(args:List AV)(h:Hp)(S:aL)(β:List bS)(w:World)(vs:List Value)(hr:kj call args h≠.fail)(hg:yA β h w)(hw:Wf S w)(hh:dV S β w h)(hv:bw S β args vs):
  Calls Tryz.prog 66 vs.toArray w (gX none S β h w (kj call args h)):=by
 unfold kj at hr |-;split at hr
 ·rename_i es name;cases hl:fF es with
  |none=>rw[hl]at hr;exact absurd rfl hr
  | some l=>
   rw[hl]at hr;simp only at hr |-;cases hc:decide (l.length<=1000000000)with
   |false=>rw[hc]at hr;exact absurd rfl hr
   | true=>
    simp only[JM];simp only[bw,VR]at hv;obtain⟨_,_,rfl,⟨a,cap,rfl,hle,hnil,hq⟩,_,_,rfl,⟨x,rfl,hx⟩,rfl⟩:=hv;have hlen:∀(es:List AV)(l:List (List UInt8×Int×List AV)),fF es=some l->l.length=es.length:=by
     intro es
     induction es with
     |nil=>intro l h;simp only[fF,JK]at h;subst h;rfl
     | cons e es ih=>
      intro l h;simp only[fF]at h;split at h
      ·rename_i h2;cases h;simp[ih _ h2]
      ·cases h
    have hll:=hlen es l hl;have hz:∃zs:List dc,jw S β l zs/\lj w.heap.size w (.slice a zs.length cap) zs:=by
     cases es with
     |nil=>
      simp only[fF,JK]at hl;subst hl;exact⟨[],rfl,.inl ⟨rfl,a,cap,rfl⟩⟩
     | cons e es=>
      cases a with
      |none=>have:=hnil rfl;subst this;simp at hle
      | some q=>
       obtain⟨hs,sz,hE⟩:=hq q rfl;have hcap:0<cap:=by simp at hle;omega
       obtain⟨b,off,sp⟩:=q;have hs':sp=none:=hs hcap;subst hs';obtain⟨zs,hR,hZ⟩:=GU (e:: es) off l hE hl;refine⟨zs,hR,.inr ⟨b,off,cap,rfl,?_,fun j hj=>?_⟩⟩
       ·have h0:=(hZ 0 (by rw[hR.length,hll];simp)).1;exact hw.lt h0
       ·obtain⟨h1,h2,h3⟩:=hZ j hj;exact⟨hw _ _ _ h1,hw _ _ _ h2,hw _ _ _ h3⟩
    obtain⟨zs,hR,hF⟩:=hz;have hzl:=hR.length;rw[show es.length=zs.length by omega];refine (callsIn_wide (n:=3)).1 ((BL Fence.wide 3 trivial trivial trivial rfl (by omega) a zs.length cap x zs (by have:=Mk hc;omega) w hF).mono ?_);rintro e w' ⟨rfl,hb⟩;refine m8 hw hh hb FC ?_;unfold rQ vA mD;rw[<- qh];rcases lJ hx hR with⟨h1,h2⟩|⟨y,z,h1,h2,h3⟩
    ·rw[h1,h2];simp only[VR,bw];exact⟨_,rfl,_,_,rfl,⟨_,rfl,_,_,rfl,rfl,_,_,rfl,⟨none,0,rfl,JO _,fun _=>rfl,fun q hq=>by cases hq⟩,rfl⟩,_,_,rfl,rfl,rfl⟩
    ·rw[h1,h2];obtain⟨_,h4,h5⟩:=h3;simp only[VR,bw];exact⟨_,rfl,_,_,rfl,⟨_,rfl,_,_,rfl,by rw[<- h4];rfl,_,_,rfl,h5,rfl⟩,_,_,rfl,rfl,rfl⟩
 ·exact absurd rfl hr
end Go.Proofs.YtblddnfanlkgiaaGreat
namespace Go.Proofs.YtblddnfanlkgiaaGreat
open Go Go.Av Go.Av.Ap Go.RowKit
set_option maxRecDepth 1000000
def fv(z:Array Value)(n:Nat):(Builtin.zeroCells z n).size=n*z.size:=by
 simp[Builtin.zeroCells]
def ki{sz:Nat}{t:TypeId}{f:FuncId} (hc:∀(n:Nat),n<=1000000->∀w:World,Calls Tryz.prog f #[.slice none 0 0,.int .i64 n] w fun e w'=>∃a cap,e= .returned (.slice a 0 cap)/\
  ((a=none/\cap=0/\w'=w)\/(a=some ⟨w.heap.size,0,none⟩/\∃x,cap*sz<=x.size/\w'=w.drew.alloc (.cells x t))))
  (call:FuncId->List AV->M AV) (args:List AV) (h:Hp) (S:aL) (β:List bS) (w:World) (vs:List Value) (hr:gM call args h≠.fail) (_hg:yA β h w) (hw:Wf S w) (hh:dV S β w h) (hv:bw S β args vs):
  Calls Tryz.prog f vs.toArray w (gX (some sz) S β h w (gM call args h)):=by
 unfold gM at hr |-;split at hr
 ·rename_i n;cases hcd:(decide (0<=n)&&decide (n<=1000000))with
  |false=>rw[hcd]at hr;exact absurd rfl hr
  | true=>
   simp only[JN,Kj]at hcd;simp only[JM];obtain⟨m,rfl⟩:∃m:Nat,n=m:=⟨n.toNat,by omega⟩;simp only[bw,VR]at hv;obtain⟨_,_,rfl,rfl,_,_,rfl,rfl,rfl⟩:=hv;refine (hc m (by omega) w).mono ?_;rintro e w' ⟨a,cap,rfl,h1⟩;have hb:Below w.heap.size w w':=by
    rcases h1 with⟨_,_,rfl⟩|⟨_,x,_,rfl⟩
    ·exact Below.refl _ _
    ·exact (show Below w.heap.size w w.drew from⟨rfl,rfl,rfl,JO _,fun _ _=>rfl⟩).trans ((Below.refl _ w.drew).alloc (JO _) _)
   refine⟨S,β,_,rfl,?_,o4 hw hh hb FC (fun _ _ _=>rfl) (fun b o v hge hv=>by have:=hw.lt hv;omega),fun sz' hsz=>?_⟩
   ·simp only[VR];refine⟨a,cap,rfl,Ki _,fun ha=>?_,fun q hq=>?_⟩
    ·rcases h1 with⟨_,rfl,_⟩|⟨rfl,_⟩
     ·rfl
     ·cases ha
    ·rcases h1 with⟨rfl,_⟩|⟨rfl,_⟩
     ·cases hq
     ·cases hq;exact⟨fun _=>rfl,sz,trivial⟩
   ·cases hsz;refine⟨a,0,cap,rfl,Ki _,fun ha=>?_,?_⟩
    ·rcases h1 with⟨_,rfl,_⟩|⟨rfl,_⟩
     ·rfl
     ·cases ha
    ·rcases h1 with⟨_,rfl,_⟩|⟨rfl,x,hx,rfl⟩
     ·exact .inl rfl
     ·refine .inr ⟨w.heap.size,0,x,rfl,?_,by omega,JO _,fun ho=>?_,fun o _=>?_⟩
      ·exact Row.new w.drew x t
      ·obtain⟨l,cs,n,k1,k2,k3⟩:=ho;obtain⟨_,ω,hH⟩:=hh;rcases hH l cs k1 k2 with⟨b',y,j1,j2,_⟩|⟨b',j1,_,_,j2⟩
       ·rw[k3]at j1;cases j1;exact absurd j2.lt (by omega)
       ·rw[k3]at j1;cases j1;exact absurd j2.lt (by omega)
      ·cases hS:S w.heap.size o with
       |none=>rfl
       |some v=>exact absurd (hw.lt hS) (by omega)
 ·exact absurd rfl hr
def BG:(Tryz.prog.info? 9).bind (fun i=>i.zero.map fun z=>(i.size,i.bytes,z.cells.size))=some (1,16,1):=by kernel_rfl
def BA(n:Nat)(hn:n<=1000000)(w:World):Calls Tryz.prog 111 #[.slice none 0 0,.int .i64 n] w fun e w'=>∃a cap,e= .returned (.slice a 0 cap)/\
  ((a=none/\cap=0/\w'=w)\/(a=some ⟨w.heap.size,0,none⟩/\∃x,cap*1<=x.size/\w'=w.drew.alloc (.cells x 9))):=by
 rcases Ky n with rfl|h0
 ·refine (Any8.slices_Grow_room JB none 0 0 0 w (JO _) (by omega) (by omega) (JO _)).mono ?_;rintro e w' ⟨rfl,rfl⟩;exact⟨none,0,rfl,.inl ⟨rfl,rfl,rfl⟩⟩
 ·have hi:=BG;cases hi0:Tryz.prog.info? 9 with
  |none=>rw[hi0]at hi;cases hi
  | some i0=>
   rw[hi0]at hi;simp only[Ls]at hi;cases hz0:i0.zero with
   |none=>rw[hz0]at hi;cases hi
   |some z=>
    rw[hz0]at hi;simp only[KS,JK,Ku]at hi;obtain⟨hs,hb,hz⟩:=hi;refine (Any8.slices_Grow_grow JB i0 z hi0 hz0 (by omega) none 0 0 n [] w (JO _) (by omega) (by rw[hb];omega) (by omega) (by simp) (fun _=>rfl) (fun a ha=>by cases ha)).mono ?_;rintro e w' ⟨rfl,rfl⟩;refine⟨_,_,rfl,.inr ⟨rfl,_,?_,rfl⟩⟩
    have:=grownCap_ge w (0+n) 0 (Tryz.layGrow146_ren.t 25)
    simp only[Lw,fv,hz,K4,J8];generalize grownCap w (0+n) 0 (Tryz.layGrow146_ren.t 25)=G at this |-;omega
def BH:(Tryz.prog.info? 98).bind (fun i=>i.zero.map fun z=>(i.size,i.bytes,z.cells.size))=some (9,144,9):=by kernel_rfl
def BC(n:Nat)(hn:n<=1000000)(w:World):Calls Tryz.prog 115 #[.slice none 0 0,.int .i64 n] w fun e w'=>∃a cap,e= .returned (.slice a 0 cap)/\
  ((a=none/\cap=0/\w'=w)\/(a=some ⟨w.heap.size,0,none⟩/\∃x,cap*9<=x.size/\w'=w.drew.alloc (.cells x 98))):=by
 rcases Ky n with rfl|h0
 ·refine (Any8.slices_Grow_room Jz none 0 0 0 w (JO _) (by omega) (by omega) (JO _)).mono ?_;rintro e w' ⟨rfl,rfl⟩;exact⟨none,0,rfl,.inl ⟨rfl,rfl,rfl⟩⟩
 ·have hi:=BH;cases hi0:Tryz.prog.info? 98 with
  |none=>rw[hi0]at hi;cases hi
  | some i0=>
   rw[hi0]at hi;simp only[Ls]at hi;cases hz0:i0.zero with
   |none=>rw[hz0]at hi;cases hi
   |some z=>
    rw[hz0]at hi;simp only[KS,JK,Ku]at hi;obtain⟨hs,hb,hz⟩:=hi;refine (Any8.slices_Grow_grow Jz i0 z hi0 hz0 (by omega) none 0 0 n [] w (JO _) (by omega) (by rw[hb];omega) (by omega) (by simp) (fun _=>rfl) (fun a ha=>by cases ha)).mono ?_;rintro e w' ⟨rfl,rfl⟩;refine⟨_,_,rfl,.inr ⟨rfl,_,?_,rfl⟩⟩
    have:=grownCap_ge w (0+n) 0 (Tryz.layGrow149_ren.t 25)
    simp only[Lw,fv,hz,K4,J8];generalize grownCap w (0+n) 0 (Tryz.layGrow149_ren.t 25)=G at this |-;omega
def BE:(Tryz.prog.info? 48).bind (fun i=>i.zero.map fun z=>(i.size,i.bytes,z.cells.size))=some (12,184,12):=by kernel_rfl
def Bw(n:Nat)(hn:n<=1000000)(w:World):Calls Tryz.prog 117 #[.slice none 0 0,.int .i64 n] w fun e w'=>∃a cap,e= .returned (.slice a 0 cap)/\
  ((a=none/\cap=0/\w'=w)\/(a=some ⟨w.heap.size,0,none⟩/\∃x,cap*12<=x.size/\w'=w.drew.alloc (.cells x 48))):=by
 rcases Ky n with rfl|h0
 ·refine (Any8.slices_Grow_room JD none 0 0 0 w (JO _) (by omega) (by omega) (JO _)).mono ?_;rintro e w' ⟨rfl,rfl⟩;exact⟨none,0,rfl,.inl ⟨rfl,rfl,rfl⟩⟩
 ·have hi:=BE;cases hi0:Tryz.prog.info? 48 with
  |none=>rw[hi0]at hi;cases hi
  | some i0=>
   rw[hi0]at hi;simp only[Ls]at hi;cases hz0:i0.zero with
   |none=>rw[hz0]at hi;cases hi
   |some z=>
    rw[hz0]at hi;simp only[KS,JK,Ku]at hi;obtain⟨hs,hb,hz⟩:=hi;refine (Any8.slices_Grow_grow JD i0 z hi0 hz0 (by omega) none 0 0 n [] w (JO _) (by omega) (by rw[hb];omega) (by omega) (by simp) (fun _=>rfl) (fun a ha=>by cases ha)).mono ?_;rintro e w' ⟨rfl,rfl⟩;refine⟨_,_,rfl,.inr ⟨rfl,_,?_,rfl⟩⟩
    have:=grownCap_ge w (0+n) 0 (Tryz.layGrow151_ren.t 25)
    simp only[Lw,fv,hz,K4,J8];generalize grownCap w (0+n) 0 (Tryz.layGrow151_ren.t 25)=G at this |-;omega
def BF:(Tryz.prog.info? 27).bind (fun i=>i.zero.map fun z=>(i.size,i.bytes,z.cells.size))=some (3,72,3):=by kernel_rfl
def Bz(n:Nat)(hn:n<=1000000)(w:World):Calls Tryz.prog 120 #[.slice none 0 0,.int .i64 n] w fun e w'=>∃a cap,e= .returned (.slice a 0 cap)/\
  ((a=none/\cap=0/\w'=w)\/(a=some ⟨w.heap.size,0,none⟩/\∃x,cap*3<=x.size/\w'=w.drew.alloc (.cells x 27))):=by
 rcases Ky n with rfl|h0
 ·refine (Any8.slices_Grow_room JC none 0 0 0 w (JO _) (by omega) (by omega) (JO _)).mono ?_;rintro e w' ⟨rfl,rfl⟩;exact⟨none,0,rfl,.inl ⟨rfl,rfl,rfl⟩⟩
 ·have hi:=BF;cases hi0:Tryz.prog.info? 27 with
  |none=>rw[hi0]at hi;cases hi
  | some i0=>
   rw[hi0]at hi;simp only[Ls]at hi;cases hz0:i0.zero with
   |none=>rw[hz0]at hi;cases hi
   |some z=>
    rw[hz0]at hi;simp only[KS,JK,Ku]at hi;obtain⟨hs,hb,hz⟩:=hi;refine (Any8.slices_Grow_grow JC i0 z hi0 hz0 (by omega) none 0 0 n [] w (JO _) (by omega) (by rw[hb];omega) (by omega) (by simp) (fun _=>rfl) (fun a ha=>by cases ha)).mono ?_;rintro e w' ⟨rfl,rfl⟩;refine⟨_,_,rfl,.inr ⟨rfl,_,?_,rfl⟩⟩
    have:=grownCap_ge w (0+n) 0 (Tryz.layGrow153_ren.t 25)
    simp only[Lw,fv,hz,K4,J8];generalize grownCap w (0+n) 0 (Tryz.layGrow153_ren.t 25)=G at this |-;omega
end Go.Proofs.YtblddnfanlkgiaaGreat
namespace Go.Proofs.YtblddnfanlkgiaaGreat
open Go Go.Av
set_option maxRecDepth 100000
noncomputable def Br(n:Nat)(a:Ann):Cx:={ T:=T,call:=fun _ _=>M.fail,own:=own,iso:=fun _=>false,nw:=fun _=>false,nt:=n,ann:=a }
def xG(n:Nat)(a:Ann):cQ Tryz.prog (Br n a).own (Br n a).call:=fun f args h S β w vs hr=>absurd rfl hr
def Bt(n:Nat)(a:Ann):IsoCall (Br n a):=⟨fun f args h=>Bool.noConfusion h,fun f args h=>Bool.noConfusion h⟩
end Go.Proofs.YtblddnfanlkgiaaGreat
