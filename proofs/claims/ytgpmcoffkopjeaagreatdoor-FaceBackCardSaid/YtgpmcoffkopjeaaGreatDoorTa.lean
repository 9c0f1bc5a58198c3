/- What the functions of the seat compute, part 1: the texts of the claim, one behind the other. Conditions: bounds, as each theorem names them. -/
import Derived.Shelf.LaysM
import Derived.Shelf.Strconv.Itoa3
import Derived.Shelf.Strings.Search3
import Derived.Ground.NamesProg
import Derived.Test.YtgpmcoffkopjeaaGreatDoorProg
import Derived.Test.YtgpmcoffkopjeaaGreatDoorLc
import Derived.Shelf.SlGeneric
import Derived.Shelf.Strconv.AtoiAll
import Derived.Shelf.LaysC
import Derived.Shelf.Small.Strs
import Derived.Ground.SlsfProg
import Derived.Lib.Builder
import Derived.Lib.UnsafeStr
import Derived.Shelf.RegionOpenPlain
import Derived.Laws.Externs
import Derived.Laws.IdiomCopy
import Derived.Laws.BitsLemmas
import Derived.RangeFuncNested
import Derived.RangeFuncBound
import Derived.RangeFuncCalls
import Derived.RangeFuncLeaves
import Derived.RangeFuncBox
import Derived.Shelf.Abstract
import Derived.Shelf.RegionOpen
import Derived.OwnWalkIn
import Derived.TacticsInMore
import Derived.LoopNIn
import Derived.LoopIn
set_option linter.defProp false
set_option linter.unusedSimpArgs false
set_option linter.unusedVariables false
namespace Go.Proofs
open Go.Shelf
def Ds:Go.Shelf.Ren:=⟨fun|171=>70|243=>108|246=>140|283=>157|284=>158|285=>159|286=>160|129=>134|317=>174|318=>175|319=>176|320=>177|337=>182|338=>183|n=>n,fun|3=>3|9=>9|2=>2|4=>4|171=>162|0=>0|53=>142|37=>66|5=>5|173=>164|212=>179|51=>140|20=>20|213=>180|46=>117|232=>193|233=>194|n=>n,fun|17=>1|18=>4|19=>5|n=>n⟩
def Dw:Go.Proofs.LaysM.n171 Tryz.prog Ds:={
 mixed:=by kernel_rfl
 f129:=Tryz.func134.trans (DL some (by kernel_rfl))
 f171:=Tryz.func70.trans (DL some (by kernel_rfl))
 f243:=Tryz.func108.trans (DL some (by kernel_rfl))
 f246:=Tryz.func140.trans (DL some (by kernel_rfl))
 f283:=Tryz.func157.trans (DL some (by kernel_rfl))
 f284:=Tryz.func158.trans (DL some (by kernel_rfl))
 f285:=Tryz.func159.trans (DL some (by kernel_rfl))
 f286:=Tryz.func160.trans (DL some (by kernel_rfl))
 f317:=Tryz.func174.trans (DL some (by kernel_rfl))
 f318:=Tryz.func175.trans (DL some (by kernel_rfl))
 f319:=Tryz.func176.trans (DL some (by kernel_rfl))
 f320:=Tryz.func177.trans (DL some (by kernel_rfl))
 f337:=Tryz.func182.trans (DL some (by kernel_rfl))
 f338:=Tryz.func183.trans (DL some (by kernel_rfl))
 t0:=Tryz.underlying0
 a0:=Tryz.isAgg0
 z0:=Tryz.sizeOf0
 v0:=Tryz.zeroValue0
 t2:=Tryz.underlying2
 a2:=Tryz.isAgg2
 z2:=Tryz.sizeOf2
 v2:=Tryz.zeroValue2
 t3:=Tryz.underlying3
 a3:=Tryz.isAgg3
 z3:=Tryz.sizeOf3
 v3:=Tryz.zeroValue3
 t4:=Tryz.underlying4
 a4:=Tryz.isAgg4
 z4:=Tryz.sizeOf4
 v4:=Tryz.zeroValue4
 t5:=Tryz.underlying5
 a5:=Tryz.isAgg5
 z5:=Tryz.sizeOf5
 v5:=Tryz.zeroValue5
 t9:=Tryz.underlying9
 a9:=Tryz.isAgg9
 z9:=Tryz.sizeOf9
 v9:=Tryz.zeroValue9
 t20:=Tryz.underlying20
 a20:=Tryz.isAgg20
 z20:=Tryz.sizeOf20
 v20:=Tryz.zeroValue20
 t37:=Tryz.underlying66
 a37:=Tryz.isAgg66
 z37:=Tryz.sizeOf66
 v37:=Tryz.zeroValue66
 t46:=Tryz.underlying117
 a46:=Tryz.isAgg117
 z46:=Tryz.sizeOf117
 v46:=Tryz.zeroValue117
 t51:=Tryz.underlying140
 a51:=Tryz.isAgg140
 z51:=Tryz.sizeOf140
 v51:=Tryz.zeroValue140
 t53:=Tryz.underlying142
 a53:=Tryz.isAgg142
 z53:=Tryz.sizeOf142
 v53:=Tryz.zeroValue142
 t171:=Tryz.underlying162
 a171:=Tryz.isAgg162
 z171:=Tryz.sizeOf162
 v171:=Tryz.zeroValue162
 t173:=Tryz.underlying164
 a173:=Tryz.isAgg164
 z173:=Tryz.sizeOf164
 v173:=Tryz.zeroValue164
 t212:=Tryz.underlying179
 a212:=Tryz.isAgg179
 z212:=Tryz.sizeOf179
 v212:=Tryz.zeroValue179
 t213:=Tryz.underlying180
 a213:=Tryz.isAgg180
 z213:=Tryz.sizeOf180
 t232:=Tryz.underlying193
 a232:=Tryz.isAgg193
 z232:=Tryz.sizeOf193
 v232:=Tryz.zeroValue193
 t233:=Tryz.underlying194
 a233:=Tryz.isAgg194
 z233:=Tryz.sizeOf194
 v233:=Tryz.zeroValue194
 g17:=by kernel_rfl
 g18:=by kernel_rfl
 g19:=by kernel_rfl
 i0:=by kernel_rfl
 i2:=by kernel_rfl
 i3:=by kernel_rfl
 i4:=by kernel_rfl
 i5:=by kernel_rfl
 i9:=by kernel_rfl
 i20:=by kernel_rfl
 i37:=by kernel_rfl
 i46:=by kernel_rfl
 i51:=by kernel_rfl
 i53:=by kernel_rfl
 i171:=by kernel_rfl
 i173:=by kernel_rfl
 i212:=by kernel_rfl
 i232:=by kernel_rfl
 i233:=by kernel_rfl
 m17:=by kernel_rfl
 m18:=by kernel_rfl
 m19:=by kernel_rfl }
def Dv:Go.Shelf.Ren:=⟨fun|144=>82|143=>117|219=>146|217=>141|225=>168|224=>169|267=>170|266=>161|314=>181|n=>n,fun|9=>9|4=>4|3=>3|5=>5|46=>117|146=>187|51=>140|n=>n,fun|1=>0|n=>n⟩
def Dx:Go.Proofs.Lays.n144 Tryz.prog Dv:={
 mixed:=by kernel_rfl
 f143:=Tryz.func117.trans (DL some (by kernel_rfl))
 f144:=Tryz.func82.trans (DL some (by kernel_rfl))
 f217:=Tryz.func141.trans (DL some (by kernel_rfl))
 f219:=Tryz.func146.trans (DL some (by kernel_rfl))
 f224:=Tryz.func169.trans (DL some (by kernel_rfl))
 f225:=Tryz.func168.trans (DL some (by kernel_rfl))
 f266:=Tryz.func161.trans (DL some (by kernel_rfl))
 f267:=Tryz.func170.trans (DL some (by kernel_rfl))
 f314:=Tryz.func181.trans (DL some (by kernel_rfl))
 t3:=Tryz.underlying3
 a3:=Tryz.isAgg3
 z3:=Tryz.sizeOf3
 v3:=Tryz.zeroValue3
 t4:=Tryz.underlying4
 a4:=Tryz.isAgg4
 z4:=Tryz.sizeOf4
 v4:=Tryz.zeroValue4
 t5:=Tryz.underlying5
 a5:=Tryz.isAgg5
 z5:=Tryz.sizeOf5
 v5:=Tryz.zeroValue5
 t9:=Tryz.underlying9
 a9:=Tryz.isAgg9
 z9:=Tryz.sizeOf9
 v9:=Tryz.zeroValue9
 t46:=Tryz.underlying117
 a46:=Tryz.isAgg117
 z46:=Tryz.sizeOf117
 v46:=Tryz.zeroValue117
 t51:=Tryz.underlying140
 a51:=Tryz.isAgg140
 z51:=Tryz.sizeOf140
 v51:=Tryz.zeroValue140
 t146:=Tryz.underlying187
 a146:=Tryz.isAgg187
 z146:=Tryz.sizeOf187
 v146:=Tryz.zeroValue187
 g1:=by kernel_rfl }
end Go.Proofs
namespace Go.Proofs.YtgpmcoffkopjeaaGreatDoor
open Go Go.Av Go.Av.Ap
abbrev CC:=FuncId->List AV->M AV
abbrev RR:=List AV->M AV
def lb{α β:Type}{m:M α}{f:α->M β}{fs:Nat->α->M β}(hf:bc f fs):aL (ae m f) fun n=>ae m (fs n):=aL.bnd (aL.const _) hf
abbrev vN(l:List Nat):List (Nat×Option Nat):=l.map fun x=>(x,none)
abbrev tF:TI:=TI.mk false 1 8 .func [] [.nilf] false
noncomputable def tab:List (Nat×TI):=[
(0,(TI.mk false 1 0 .other [] [.any] false)),
(1,tF),
(2,(TI.mk false 1 8 (.int .i64) [] [.int .i64 0] false)),
(3,(TI.mk false 1 8 (.int .i64) [] [.int .i64 0] false)),
(4,(TI.mk false 1 1 .bool [] [.bool false] false)),
(5,(TI.mk false 1 1 (.int .u8) [] [.int .u8 0] false)),
(6,(TI.mk false 1 1 (.int .u8) [] [.int .u8 0] false)),
(7,(TI.mk true 4 24 .struct [(0,((2,true))),(1,((3,true))),(2,((4,true))),(3,((6,true)))] [.int .i64 0,.int .i64 0,.bool false,.int .u8 0] true)),
(8,(TI.mk true 4 24 .struct [(0,((2,true))),(1,((3,true))),(2,((4,true))),(3,((6,true)))] [.int .i64 0,.int .i64 0,.bool false,.int .u8 0] true)),
(9,(TI.mk false 1 16 .str [] [.str []] false)),
(10,(TI.mk false 1 16 .str [] [.str []] false)),
(11,(TI.mk false 1 16 .str [] [.str []] false)),
(12,(TI.mk false 1 8 (.int .u64) [] [.int .u64 0] false)),
(13,(TI.mk true 2 24 .struct [(0,((9,true))),(1,((12,true)))] [.str [],.int .u64 0] false)),
(14,(TI.mk true 2 24 .struct [(0,((9,true))),(1,((12,true)))] [.str [],.int .u64 0] false)),
(15,(TI.mk false 1 8 .ptr [] [.nilp] false)),
(16,(TI.mk false 1 8 .ptr [] [.nilp] false)),
(17,(TI.mk false 1 8 .ptr [] [.nilp] false)),
(18,(TI.mk true 1 8 .struct [(0,((17,true)))] [.nilp] false)),
(19,(TI.mk true 1 8 .struct [(0,((17,true)))] [.nilp] false)),
(20,(TI.mk false 1 16 .iface [] [.nili] false)),
(21,(TI.mk false 1 4 (.int .i32) [] [.int .i32 0] false)),
(22,(TI.mk false 1 24 (.slice 9) [] [.sl []] false)),
(23,(TI.mk false 1 24 (.slice 55) [] [.sl []] false)),
(24,(TI.mk false 1 24 (.slice 57) [] [.sl []] false)),
(25,(TI.mk false 1 24 (.slice 59) [] [.sl []] false)),
(26,(TI.mk true 3 72 .struct [(0,((23,true))),(1,((24,true))),(2,((24,true)))] [.sl [],.sl [],.sl []] true)),
(27,(TI.mk true 3 72 .struct [(0,((23,true))),(1,((24,true))),(2,((24,true)))] [.sl [],.sl [],.sl []] true)),
(28,(TI.mk true 9 192 .struct [(0,((9,true))),(1,((22,true))),(2,((23,true))),(3,((24,true))),(4,((25,true))),(5,((4,true))),(6,((27,true)))] [.str [],.sl [],.sl [],.sl [],.sl [],.bool false,.sl [],.sl [],.sl []] true)),
(29,(TI.mk true 9 192 .struct [(0,((9,true))),(1,((22,true))),(2,((23,true))),(3,((24,true))),(4,((25,true))),(5,((4,true))),(6,((27,true)))] [.str [],.sl [],.sl [],.sl [],.sl [],.bool false,.sl [],.sl [],.sl []] true)),
(30,(TI.mk false 1 24 (.slice 37) [] [.sl []] false)),
(31,(TI.mk true 2 40 .struct [(0,((9,true))),(1,((30,true)))] [.str [],.sl []] true)),
(32,(TI.mk true 2 40 .struct [(0,((9,true))),(1,((30,true)))] [.str [],.sl []] true)),
(33,(TI.mk false 1 24 (.slice 35) [] [.sl []] false)),
(34,(TI.mk true 2 32 .struct [(0,((3,true))),(1,((23,true)))] [.int .i64 0,.sl []] true)),
(35,(TI.mk true 2 32 .struct [(0,((3,true))),(1,((23,true)))] [.int .i64 0,.sl []] true)),
(36,(TI.mk true 5 80 .struct [(0,((9,true))),(1,((33,true))),(2,((35,true))),(4,((3,true)))] [.str [],.sl [],.int .i64 0,.sl [],.int .i64 0] true)),
(37,(TI.mk true 5 80 .struct [(0,((9,true))),(1,((33,true))),(2,((35,true))),(4,((3,true)))] [.str [],.sl [],.int .i64 0,.sl [],.int .i64 0] true)),
(38,tF),
(39,tF),
(40,tF),
(41,tF),
(42,(TI.mk false 1 8 (.int .i64) [] [.int .i64 0] false)),
(43,(TI.mk false 1 0 .other [] [.any] false)),
(44,tF),
(45,(TI.mk false 1 0 .other [] [.any] false)),
(46,tF),
(47,(TI.mk false 1 0 .other [] [.any] false)),
(48,tF),
(49,tF),
(50,tF),
(51,tF),
(52,tF),
(53,tF),
(54,(TI.mk true 3 48 .struct [(0,((9,true))),(1,((35,true)))] [.str [],.int .i64 0,.sl []] true)),
(55,(TI.mk true 3 48 .struct [(0,((9,true))),(1,((35,true)))] [.str [],.int .i64 0,.sl []] true)),
(56,(TI.mk true 6 96 .struct [(0,((3,true))),(1,((3,true))),(2,((9,true))),(3,((9,true))),(4,((22,true))),(5,((24,true)))] [.int .i64 0,.int .i64 0,.str [],.str [],.sl [],.sl []] true)),
(57,(TI.mk true 6 96 .struct [(0,((3,true))),(1,((3,true))),(2,((9,true))),(3,((9,true))),(4,((22,true))),(5,((24,true)))] [.int .i64 0,.int .i64 0,.str [],.str [],.sl [],.sl []] true)),
(58,(TI.mk true 12 184 .struct [(0,((9,true))),(1,((4,true))),(2,((23,true))),(3,((35,true))),(5,((3,true))),(6,((57,true)))] [.str [],.bool false,.sl [],.int .i64 0,.sl [],.int .i64 0,.int .i64 0,.int .i64 0,.str [],.str [],.sl [],.sl []] true)),
(59,(TI.mk true 12 184 .struct [(0,((9,true))),(1,((4,true))),(2,((23,true))),(3,((35,true))),(5,((3,true))),(6,((57,true)))] [.str [],.bool false,.sl [],.int .i64 0,.sl [],.int .i64 0,.int .i64 0,.int .i64 0,.str [],.str [],.sl [],.sl []] true)),
(60,tF),
(61,tF),
(62,tF),
(63,tF),
(64,tF),
(65,(TI.mk false 1 8 .ptr [] [.nilp] false)),
(66,(TI.mk false 1 24 (.slice 5) [] [.sl []] false)),
(67,(TI.mk true 2 32 .struct [(0,((65,true))),(1,((66,true)))] [.nilp,.sl []] true)),
(68,(TI.mk true 2 32 .struct [(0,((65,true))),(1,((66,true)))] [.nilp,.sl []] true)),
(69,(TI.mk false 1 16 .iface [] [.nili] false)),
(70,(TI.mk false 1 16 .iface [] [.nili] false)),
(71,(TI.mk false 1 0 .other [] [.any] false)),
(72,tF),
(73,tF),
(74,tF),
(75,tF),
(76,tF),
(77,tF),
(78,(TI.mk false 1 8 .ptr [] [.nilp] false)),
(79,tF),
(80,tF),
(81,tF),
(82,(TI.mk false 1 8 .ptr [] [.nilp] false)),
(83,tF),
(84,tF),
(85,tF),
(86,tF),
(87,tF),
(88,tF),
(89,tF),
(90,tF),
(91,tF),
(92,tF),
(93,tF),
(94,tF),
(95,tF),
(96,tF),
(97,(TI.mk false 1 8 .ptr [] [.nilp] false)),
(98,(TI.mk true 2 24 .struct [(0,((9,true))),(1,((4,true)))] [.str [],.bool false] true)),
(99,(TI.mk true 2 24 .struct [(0,((9,true))),(1,((4,true)))] [.str [],.bool false] true)),
(100,tF),
(101,tF),
(102,(TI.mk true 2 24 .struct [(0,((9,true))),(1,((4,true)))] [.str [],.bool false] true)),
(103,(TI.mk true 2 24 .struct [(0,((9,true))),(1,((4,true)))] [.str [],.bool false] true)),
(104,tF),
(105,tF),
(106,tF),
(107,tF),
(108,tF),
(109,tF),
(110,tF),
(111,tF),
(112,(TI.mk false 1 8 (.map 9 4) [] [.nilm] false)),
(113,tF),
(114,tF),
(115,tF),
(116,tF),
(117,(TI.mk false 1 8 (.int .u64) [] [.int .u64 0] false)),
(118,tF),
(119,tF),
(120,tF),
(121,tF),
(122,(TI.mk false 1 8 .other [] [.nilp] false)),
(123,tF),
(124,tF),
(125,(TI.mk false 1 0 .other [] [.any] false)),
(126,tF),
(127,tF),
(128,tF),
(129,tF),
(130,tF),
(131,tF),
(132,(TI.mk false 1 8 (.int .i64) [] [.int .i64 0] false)),
(133,(TI.mk false 1 0 .other [] [.any] false)),
(134,tF),
(135,tF),
(136,tF),
(137,(TI.mk false 1 0 .other [] [.any] false)),
(138,tF),
(139,tF),
(140,(TI.mk false 1 4 (.int .u32) [] [.int .u32 0] false)),
(141,tF),
(142,(TI.mk false 1 8 (.int .u64) [] [.int .u64 0] false)),
(143,tF),
(144,(TI.mk false 1 0 .other [] [.any] false)),
(145,tF),
(146,tF),
(147,tF),
(148,tF),
(149,tF),
(150,(TI.mk false 1 0 .other [] [.any] false)),
(151,tF),
(152,(TI.mk false 1 8 (.int .u64) [] [.int .u64 0] false)),
(153,tF),
(154,tF),
(155,tF),
(156,(TI.mk false 1 8 .ptr [] [.nilp] false)),
(157,tF),
(158,tF),
(159,tF),
(160,tF),
(161,tF),
(162,(TI.mk true 24 24 (.array 24 5) [] [.int .u8 0,.int .u8 0,.int .u8 0,.int .u8 0,.int .u8 0,.int .u8 0,.int .u8 0,.int .u8 0,.int .u8 0,.int .u8 0,.int .u8 0,.int .u8 0,.int .u8 0,.int .u8 0,.int .u8 0,.int .u8 0,.int .u8 0,.int .u8 0,.int .u8 0,.int .u8 0,.int .u8 0,.int .u8 0,.int .u8 0,.int .u8 0] false)),
(163,tF),
(164,(TI.mk false 1 0 .other [] [.any] false)),
(165,tF),
(166,(TI.mk false 1 8 (.int .i64) [] [.int .i64 0] false)),
(167,(TI.mk false 1 0 .other [] [.any] false)),
(168,tF),
(169,(TI.mk false 1 8 .ptr [] [.nilp] false)),
(170,tF),
(171,tF),
(172,tF),
(173,(TI.mk false 1 8 .ptr [] [.nilp] false)),
(174,(TI.mk false 1 0 .other [] [.any] false)),
(175,tF),
(176,tF),
(177,tF),
(178,tF),
(179,(TI.mk true 20 160 (.array 20 142) [] [.int .u64 0,.int .u64 0,.int .u64 0,.int .u64 0,.int .u64 0,.int .u64 0,.int .u64 0,.int .u64 0,.int .u64 0,.int .u64 0,.int .u64 0,.int .u64 0,.int .u64 0,.int .u64 0,.int .u64 0,.int .u64 0,.int .u64 0,.int .u64 0,.int .u64 0,.int .u64 0] false)),
(180,(TI.mk true 65 65 (.array 65 5) [] [.int .u8 0,.int .u8 0,.int .u8 0,.int .u8 0,.int .u8 0,.int .u8 0,.int .u8 0,.int .u8 0,.int .u8 0,.int .u8 0,.int .u8 0,.int .u8 0,.int .u8 0,.int .u8 0,.int .u8 0,.int .u8 0,.int .u8 0,.int .u8 0,.int .u8 0,.int .u8 0,.int .u8 0,.int .u8 0,.int .u8 0,.int .u8 0,.int .u8 0,.int .u8 0,.int .u8 0,.int .u8 0,.int .u8 0,.int .u8 0,.int .u8 0,.int .u8 0,.int .u8 0,.int .u8 0,.int .u8 0,.int .u8 0,.int .u8 0,.int .u8 0,.int .u8 0,.int .u8 0,.int .u8 0,.int .u8 0,.int .u8 0,.int .u8 0,.int .u8 0,.int .u8 0,.int .u8 0,.int .u8 0,.int .u8 0,.int .u8 0,.int .u8 0,.int .u8 0,.int .u8 0,.int .u8 0,.int .u8 0,.int .u8 0,.int .u8 0,.int .u8 0,.int .u8 0,.int .u8 0,.int .u8 0,.int .u8 0,.int .u8 0,.int .u8 0,.int .u8 0] false)),
(181,tF),
(182,(TI.mk false 1 0 .other [] [.any] false)),
(183,tF),
(184,(TI.mk true 3 48 .struct [(0,((9,true))),(1,((9,true))),(2,((70,true)))] [.str [],.str [],.nili] false)),
(185,(TI.mk true 3 48 .struct [(0,((9,true))),(1,((9,true))),(2,((70,true)))] [.str [],.str [],.nili] false)),
(186,tF),
(187,(TI.mk false 1 0 .other [] [.any] false)),
(188,tF),
(189,tF),
(190,(TI.mk false 1 8 .ptr [] [.nilp] false)),
(191,(TI.mk true 1 16 .struct [(0,((9,true)))] [.str []] true)),
(192,(TI.mk true 1 16 .struct [(0,((9,true)))] [.str []] true)),
(193,(TI.mk true 32 32 (.array 32 5) [] [.int .u8 0,.int .u8 0,.int .u8 0,.int .u8 0,.int .u8 0,.int .u8 0,.int .u8 0,.int .u8 0,.int .u8 0,.int .u8 0,.int .u8 0,.int .u8 0,.int .u8 0,.int .u8 0,.int .u8 0,.int .u8 0,.int .u8 0,.int .u8 0,.int .u8 0,.int .u8 0,.int .u8 0,.int .u8 0,.int .u8 0,.int .u8 0,.int .u8 0,.int .u8 0,.int .u8 0,.int .u8 0,.int .u8 0,.int .u8 0,.int .u8 0,.int .u8 0] false)),
(194,(TI.mk true 64 64 (.array 64 5) [] [.int .u8 0,.int .u8 0,.int .u8 0,.int .u8 0,.int .u8 0,.int .u8 0,.int .u8 0,.int .u8 0,.int .u8 0,.int .u8 0,.int .u8 0,.int .u8 0,.int .u8 0,.int .u8 0,.int .u8 0,.int .u8 0,.int .u8 0,.int .u8 0,.int .u8 0,.int .u8 0,.int .u8 0,.int .u8 0,.int .u8 0,.int .u8 0,.int .u8 0,.int .u8 0,.int .u8 0,.int .u8 0,.int .u8 0,.int .u8 0,.int .u8 0,.int .u8 0,.int .u8 0,.int .u8 0,.int .u8 0,.int .u8 0,.int .u8 0,.int .u8 0,.int .u8 0,.int .u8 0,.int .u8 0,.int .u8 0,.int .u8 0,.int .u8 0,.int .u8 0,.int .u8 0,.int .u8 0,.int .u8 0,.int .u8 0,.int .u8 0,.int .u8 0,.int .u8 0,.int .u8 0,.int .u8 0,.int .u8 0,.int .u8 0,.int .u8 0,.int .u8 0,.int .u8 0,.int .u8 0,.int .u8 0,.int .u8 0,.int .u8 0,.int .u8 0] false)),
(195,(TI.mk true 4 40 .struct [(0,((17,true))),(1,((17,true))),(2,((17,true))),(3,((9,true)))] [.nilp,.nilp,.nilp,.str []] false)),
(196,(TI.mk true 4 40 .struct [(0,((17,true))),(1,((17,true))),(2,((17,true))),(3,((9,true)))] [.nilp,.nilp,.nilp,.str []] false)),
(197,(TI.mk true 0 0 (.array 0 16) [] [] false)),
(198,(TI.mk true 0 0 .struct [(0,((197,false)))] [] false)),
(199,(TI.mk true 0 0 .struct [(0,((197,false)))] [] false)),
(200,(TI.mk false 1 1 (.int .u8) [] [.int .u8 0] false)),
(201,(TI.mk false 1 1 (.int .u8) [] [.int .u8 0] false)),
(202,tF),
(203,(TI.mk false 1 4 (.int .i32) [] [.int .i32 0] false)),
(204,(TI.mk false 1 4 (.int .i32) [] [.int .i32 0] false)),
(205,(TI.mk true 11 48 .struct [(0,((12,true))),(1,((12,true))),(2,((140,true))),(3,((200,true))),(4,((5,true))),(5,((5,true))),(6,((201,true))),(7,((202,true))),(8,((97,true))),(9,((203,true))),(10,((204,true)))] [.int .u64 0,.int .u64 0,.int .u32 0,.int .u8 0,.int .u8 0,.int .u8 0,.int .u8 0,.nilf,.nilp,.int .i32 0,.int .i32 0] false)),
(206,(TI.mk true 11 48 .struct [(0,((12,true))),(1,((12,true))),(2,((140,true))),(3,((200,true))),(4,((5,true))),(5,((5,true))),(6,((201,true))),(7,((202,true))),(8,((97,true))),(9,((203,true))),(10,((204,true)))] [.int .u64 0,.int .u64 0,.int .u32 0,.int .u8 0,.int .u8 0,.int .u8 0,.int .u8 0,.nilf,.nilp,.int .i32 0,.int .i32 0] false))]
def sS:List (Nat×TI)->Nat->Option TI
 |[],_=>none
 |(k,x):: r,t=>bif Nat.beq k t then some x else sS r t
noncomputable def T:TT:=sS tab
def AA:Ann:={kinds:=[(8,.S),(10,.S),(12,.S)],nl:=[17,27,33,64,65,86,91,97],lw:=[8,10,12],joins:=[(49,{vals:=vN [1,5]})]}
def yW:Ann:={kinds:=[(1,.S),(2,.S),(5,.S),(7,.S),(9,.S),(11,.S),(12,.S),(13,.S)],no:=[16,21,44,46,48,50],nl:=[23,26,35,40,64,65,69,81,86,87,91,92,97,104],lw:=[1,2,5,7,9,11,12,13]}
def AH:Ann:={nl:=[6,16,19,23],loops:=[(0,{vals:=vN [1,3]})]}
def AJ:Ann:={nl:=[6,16,19,23,28],loops:=[(0,{vals:=vN [1,3]})]}
def AK:Ann:={kinds:=[(4,.B),(6,.S),(8,.S)],nl:=[9,13,16,22,27,29,32,38,43,44,48,51],lw:=[6,8],loops:=[(0,{vals:=vN [4,22,23,24]}),(2,{vals:=vN [4,6,22,23,24,38,39,40]})]}
def xW:Ann:={hb:=[5,7,15,36],no:=[59,71],lw:=[2,5,7,61,64,67,73],loops:=[(0,{vals:=[(0,none),(4,none),(6,none),(3000,none),(3001,none),(6000,none),(6001,some 5)],locs:=[(2,3000,0),(5,6000,0)],lbs:=[(3000,2),(6000,2)]}),(2,{vals:=[(0,none),(4,none),(6,none),(8,none),(3000,none),(3001,none),(6000,none),(6001,some 5),(8000,none),(8001,some 2),(8002,none),(8003,none),(8004,none)],locs:=[(2,3000,0),(5,6000,0),(7,8000,0)],lbs:=[(3000,2),(6000,2),(8000,5)]})],nils:=[(5,[1]),(7,[1])]}
def Aw:Ann:={kinds:=[(9,.S)],hl:=[37],nl:=[11,18,21,37,41],lw:=[4,7,9,28,29],loops:=[(0,{vals:=vN [31,32,33,5000,5001,5002,5003,5004,8000,8001,8002,8003,8004],locs:=[(4,5000,0),(7,8000,0)],lbs:=[(5000,5),(8000,5)]})],ords:=[(5,[0,1,3,4,2,6,5,7,8,9])]}
def xX:Ann:={nl:=[7,9,13,16,22,28,31,33,36],loops:=[(0,{vals:=vN [2,3,5]})]}
def xY:Ann:={nl:=[7,9,13,15,20,23,29,31,37,43,46,48,51],loops:=[(0,{vals:=vN [2,3,5]})]}
def xZ:Ann:={kinds:=[(4,.S)],nl:=[6,11,16,22,23,31,36,38],lw:=[4],loops:=[(0,{vals:=vN [1,16,17,18]})]}
def Ax:Ann:={kinds:=[(5,.S),(8,.S)],ha:=[54],hb:=[6,15,33],no:=[46,53],nl:=[9,14,17,22,24,27,29,32,35,40,44],lw:=[2,3,5,6,8,48,55],loops:=[(0,{vals:=vN [17,18,19,3000,3001,4000,4001],locs:=[(2,3000,0),(3,4000,0)],lbs:=[(3000,2),(4000,2)]}),(2,{vals:=[(17,none),(18,none),(19,none),(35,none),(36,none),(37,none),(3000,none),(3001,none),(4000,none),(4001,none),(7000,none),(7001,some 2),(7002,none),(7003,none),(7004,none)],locs:=[(2,3000,0),(3,4000,0),(6,7000,0)],lbs:=[(3000,2),(4000,2),(7000,5)]})],ords:=[(8,[0,1,2,3,5,6,8,4,7,9])],nils:=[(6,[1])]}
def x7:Ann:={nl:=[6,8,12,14,19,21]}
def Ay:Ann:={nl:=[6,8,12,14]}
def Az:Ann:={hb:=[3,5],no:=[19],nl:=[17],lw:=[2,3,21],loops:=[(0,{vals:=[(0,none),(4,none),(3000,none),(3001,none),(4000,none),(4001,some 3)],locs:=[(2,3000,0),(3,4000,0)],lbs:=[(3000,2),(4000,2)]})],nils:=[(3,[1])]}
def x8:Ann:={nl:=[3]}
def x9:Ann:={iso:=false,hl:=[12],ha:=[14],hb:=[14],nl:=[12]}
def ya:Ann:={}
def yb:Ann:={}
def yc:Ann:={iso:=false,kinds:=[(5,.S)],nl:=[8,12,16,21,26,29,34],lw:=[5],loops:=[(0,{vals:=vN [0,21,22,23]})]}
def yd:Ann:={iso:=false,kinds:=[(5,.H)],hb:=[4]}
def ye:Ann:={iso:=false,hl:=[11,19,26,36],nl:=[11,19,26,36]}
def yf:Ann:={iso:=false}
def yg:Ann:={iso:=false,hl:=[6],nl:=[6]}
def yh:Ann:={iso:=false,hb:=[5,10],no:=[48],lw:=[4,5,7,44,50],loops:=[(0,{vals:=[(0,none),(1,none),(6,none),(5000,none),(5001,none),(6000,none),(6001,some 3)],locs:=[(4,5000,0),(5,6000,0)],lbs:=[(5000,2),(6000,2)]})],nils:=[(5,[1])]}
def AB:Ann:={nl:=[15],loops:=[(0,{vals:=vN [0,1,7,8]})]}
def AC:Ann:={nl:=[5,6]}
def sH:Ann:={iso:=false,ha:=[7]}
def uN:Ann:={kinds:=[(1,.L),(4,.S)],nl:=[16,21],lw:=[2,4,8],loops:=[(0,{vals:=vN [10,11,12,2000,2001,3000,3001],locs:=[(1,2000,0),(2,3000,0)],lbs:=[(2000,2),(3000,2)]})]}
def yj:Ann:={nl:=[7,9,13,16,22,28,32,34,38,42,46,48,52],loops:=[(0,{vals:=vN [2,3,5]})]}
def yk:Ann:={}
def yl:Ann:={nl:=[4,9,15,21,26]}
def AD:Ann:={kinds:=[(8,.S)],nl:=[13,18,32,37,40,44,50,56,62,68,74,77,82,88,94,100,102,109,112,115,121,126,133],lw:=[8],joins:=[(116,{vals:=vN [1,9,10]})],loops:=[(0,{vals:=vN [1,3,13,14,15]}),(2,{vals:=vN [1,6,32,33,34]})]}
def uO:Ann:={nl:=[6,8]}
def uP:Ann:={}
def ym:Ann:={kinds:=[(8,.S),(9,.S)],nl:=[21,25,27,28],lw:=[8,9],loops:=[(0,{vals:=vN [1,2,15,16,17]})]}
def yn:Ann:={nl:=[5,8,12,13]}
def AE:Ann:={kinds:=[(8,.S),(9,.S)],nl:=[21,25,27,28],lw:=[8,9],loops:=[(0,{vals:=vN [1,2,15,16,17]})]}
def AF:Ann:={nl:=[6,8,12,14,19,21,26,28]}
def AG:Ann:={nl:=[6,8,12,14]}
def yo:Ann:={nl:=[15,27,31],loops:=[(0,{vals:=vN [1,2,3,7,8]})]}
def yp:Ann:={}
def yq:Ann:={iso:=false,hl:=[14,18,57],nl:=[14,18,57],ords:=[(7,[0,1,2,3,5,6,7,4,8,9,10,11,12,13,14])]}
def yr:Ann:={iso:=false}
def yt:Ann:={iso:=false,hl:=[10],nl:=[10]}
def yu:Ann:={}
def yv:Ann:={nl:=[3]}
def yw:Ann:={}
def yx:Ann:={nl:=[3]}
def AL:Ann:={kinds:=[(7,.S)],nl:=[14,17,21,27,33],lw:=[7],loops:=[(0,{vals:=vN [0,1,5,9,10,11]})]}
def AM:Ann:={nl:=[3]}
def AO:Ann:={kinds:=[(6,.S)],nl:=[12,13],lw:=[6],loops:=[(0,{vals:=vN [0,1,7,8,9]})]}
def uQ:Ann:={}
def uz:Ann:={nl:=[3]}
def uA:Ann:={nl:=[6,8,12]}
def yR:Ann:={kinds:=[(8,.S),(9,.S)],nl:=[21,25,27,28],lw:=[8,9],loops:=[(0,{vals:=vN [1,2,15,16,17]})]}
def yS:Ann:={nl:=[6,8,12,14]}
def uB:Ann:={}
def uC:Ann:={}
def uD:Ann:={loops:=[(0,{vals:=vN [0,1,5]})]}
def uE:Ann:={}
def uF:Ann:={}
def uG:Ann:={kinds:=[(6,.S)],nl:=[11,16,21,27,31,37,43,45,53,55,60,66],lw:=[6],loops:=[(0,{vals:=vN [1,2,37,38,39]})]}
def uH:Ann:={nl:=[15],loops:=[(0,{vals:=vN [0,1,7,8]})]}
def yT:Ann:={kinds:=[(5,.S),(8,.S)],nl:=[13,18,22,31,37,39,44,46,51,53,58,61,66,71,76,77],lw:=[5,8],loops:=[(0,{vals:=vN [1,71,72,73]})]}
def uI:Ann:={}
def uJ:Ann:={kinds:=[(4,.S)],nl:=[8,10,17,19],lw:=[4]}
def uK:Ann:={}
def yU:Ann:={nl:=[6,8,11,16,23,30,36,45,54,58,63,65],lw:=[2,4,17,24,31,37,46,55,66,67],joins:=[(12,{vals:=vN [1,11,12,3000,3001,3002,3003,3004,3005,5000,5001,5002,5003,5004,5005],locs:=[(2,3000,0),(4,5000,0)],lbs:=[(3000,6),(5000,6)]}),(19,{vals:=vN [1,11,19,3000,3001,3002,3003,3004,3005,5000,5001,5002,5003,5004,5005],locs:=[(2,3000,0),(4,5000,0)],lbs:=[(3000,6),(5000,6)]}),(26,{vals:=vN [1,11,26,3000,3001,3002,3003,3004,3005,5000,5001,5002,5003,5004,5005],locs:=[(2,3000,0),(4,5000,0)],lbs:=[(3000,6),(5000,6)]})]}
def yV:Ann:={nl:=[6,10,14,20,24,30,34,39,44,54,59,63,67,73,80,86,96,100,106],joins:=[(47,{vals:=vN [1,6,47]})],loops:=[(1,{vals:=vN [1,80,81,82]})]}
def uL:Ann:={nl:=[15],loops:=[(0,{vals:=vN [0,1,7,8]})]}
def uM:Ann:={}
noncomputable def jG:List (Nat×(Func×Ann)):=[
(4,(Tryz.f4,AA)),
(5,(Tryz.f5,yW)),
(7,(Tryz.f7,AH)),
(8,(Tryz.f8,AJ)),
(9,(Tryz.f9,AK)),
(11,(Tryz.f11,xW)),
(13,(Tryz.f13,Aw)),
(15,(Tryz.f15,xX)),
(16,(Tryz.f16,xY)),
(17,(Tryz.f17,xZ)),
(19,(Tryz.f19,Ax)),
(21,(Tryz.f21,x7)),
(23,(Tryz.f23,Ay)),
(24,(Tryz.f24,Az)),
(26,(Tryz.f26,x8)),
(29,(Tryz.f29,x9)),
(30,(Tryz.f30,ya)),
(31,(Tryz.f31,yb)),
(32,(Tryz.f32,yc)),
(37,(Tryz.f37,yd)),
(38,(Tryz.f38,ye)),
(39,(Tryz.f39,yf)),
(40,(Tryz.f40,yg)),
(41,(Tryz.f41,yh)),
(47,(Tryz.f47,AB)),
(48,(Tryz.f48,AC)),
(51,(Tryz.f51,yj)),
(52,(Tryz.f52,yk)),
(53,(Tryz.f53,yl)),
(56,(Tryz.f56,AD)),
(58,(Tryz.f58,uO)),
(59,(Tryz.f59,uP)),
(61,(Tryz.f61,ym)),
(62,(Tryz.f62,yn)),
(64,(Tryz.f64,AE)),
(65,(Tryz.f65,AF)),
(66,(Tryz.f66,AG)),
(67,(Tryz.f67,yo)),
(71,(Tryz.f71,yp)),
(74,(Tryz.f74,yq)),
(75,(Tryz.f75,yr)),
(76,(Tryz.f76,yt)),
(81,(Tryz.f81,yu)),
(83,(Tryz.f83,yv)),
(84,(Tryz.f84,yw)),
(85,(Tryz.f85,yx)),
(90,(Tryz.f90,AL)),
(91,(Tryz.f91,AM)),
(92,(Tryz.f92,AO)),
(95,(Tryz.f95,uQ)),
(101,(Tryz.f101,uz)),
(102,(Tryz.f102,uA)),
(105,(Tryz.f105,yR)),
(106,(Tryz.f106,yS)),
(111,(Tryz.f111,uB)),
(113,(Tryz.f113,uC)),
(114,(Tryz.f114,uD)),
(115,(Tryz.f115,uE)),
(116,(Tryz.f116,uF)),
(118,(Tryz.f118,uG)),
(119,(Tryz.f119,uH)),
(124,(Tryz.f124,yT)),
(136,(Tryz.f136,uI)),
(137,(Tryz.f137,uJ)),
(144,(Tryz.f144,uK)),
(147,(Tryz.f147,yU)),
(148,(Tryz.f148,yV)),
(155,(Tryz.f155,uL)),
(167,(Tryz.f167,uM))]
def nU:List (Nat×(Func×Ann))->Nat->Option (Func×Ann)
 |[],_=>none
 |(k,x):: r,t=>bif Nat.beq k t then some x else nU r t
def own:FuncId->Option Nat:=fun f=>bif Nat.beq f 80 then some 3 else none
noncomputable def other:FuncId->Option ((FuncId->List AV->M AV)->List AV->M AV):=fun f=>
 bif Nat.beq f 33 then some (dc 5)else bif Nat.beq f 49 then some (cB T 33)else bif Nat.beq f 50 then some (lg)else bif Nat.beq f 57 then some (fc 5 58)else bif Nat.beq f 69 then some (e9 [(68,2)])else bif Nat.beq f 70 then some (og)else bif Nat.beq f 82 then some (fL)else bif Nat.beq f 109 then some (d7)else bif Nat.beq f 110 then some (nD 169)else bif Nat.beq f 138 then some (hM)else none
noncomputable def pg:Pg:={ T:=T,funcs:=nU jG,own:=own,other:=other,nw:=fun f=>bif Nat.beq f 49 then true else false }
def hOther:ci pg:=by
 intro f E hE call calls hc;have h0:other f=some E:=hE;unfold other at h0;rcases cD h0 with rfl|h0
 ·exact bc.const _
 rcases cD h0 with rfl|h0
 ·exact lT _ _ _ _
 rcases cD h0 with rfl|h0
 ·exact bc.const _
 rcases cD h0 with rfl|h0
 ·exact bc.const _
 rcases cD h0 with rfl|h0
 ·exact bc.const _
 rcases cD h0 with rfl|h0
 ·exact bc.const _
 rcases cD h0 with rfl|h0
 ·exact bc.const _
 rcases cD h0 with rfl|h0
 ·exact bc.const _
 rcases cD h0 with rfl|h0
 ·exact bc.const _
 rcases cD h0 with rfl|h0
 ·exact bc.const _
 cases h0
end Go.Proofs.YtgpmcoffkopjeaaGreatDoor
namespace Go.Proofs.YtgpmcoffkopjeaaGreatDoor
open Go Go.Av
set_option maxRecDepth 1000000
instance dr0:Dr:=⟨False⟩
def mA{p:Prop}(h:Dr.on):p:=False.elim h
def zP:(tab.map fun x=>zQ Tryz.prog x.1)=tab.map fun x=>some x.2:=by kernel_rfl
theorem nV:(l:List (Nat×TI))->(t:Nat)->(ti:TI)->sS l t=some ti->(t,ti)∈l
 |[],t,ti,h=>by cases h
 | (k,x):: r,t,ti,h=>by
  simp only[sS]at h;cases hk:Nat.beq k t with
  |true=>
   rw[hk]at h;simp only[DJ,DI]at h
   have:=DN hk
   subst this h;exact E6
  |false=>
   rw[hk]at h;exact Fw _ (nV r t ti h)
theorem d9{α β:Type}{f g:α->β}:{l:List α} ->l.map f=l.map g->∀x∈l,f x=g x
 |[],_,x,hx=>by cases hx
 |a:: l,h,x,hx=>by
  simp only[Ev,FS]at h;rcases Eh.1 hx with rfl|hx
  ·exact h.1
  ·exact d9 h.2 x hx
def tok:TOK Tryz.prog T:=⟨fun t ti h=>d9 zP (t,ti) (nV tab t ti h),by kernel_rfl⟩
def pr:(jG.map fun x=>Tryz.prog.funcs[x.1]?)=jG.map fun x=>some x.2.1:=by kernel_rfl
def iP:(jG.map fun x=>x.2.1.name== "runtime.NumGoroutine")=jG.map fun _=>false:=by kernel_rfl
theorem jW:(l:List (Nat×(Func×Ann)))->(t:Nat)->(x:Func×Ann)->nU l t=some x->(t,x)∈l
 |[],t,ti,h=>by cases h
 | (k,x):: r,t,ti,h=>by
  simp only[nU]at h;cases hk:Nat.beq k t with
  |true=>
   rw[hk]at h;simp only[DJ,DI]at h
   have:=DN hk
   subst this h;exact E6
  |false=>
   rw[hk]at h;exact Fw _ (jW r t ti h)
def qo:∀f fn a,pg.funcs f=some (fn,a)->Tryz.prog.funcs[f]? = some fn/\(fn.name== "runtime.NumGoroutine")=false:=by
 intro f fn a h
 have:=jW jG f (fn,a) h
 exact⟨d9 pr _ this,d9 iP _ this⟩
end Go.Proofs.YtgpmcoffkopjeaaGreatDoor
namespace Go.Proofs.YtgpmcoffkopjeaaGreatDoor
open Go Go.Av Go.RowKit
set_option maxRecDepth 100000
def below_grow(w:World)(k:Nat)(os:Array Obj):Below w.heap.size w (Go.Sort.grow (w.drewN k) os):=by
 refine (show Below w.heap.size w (w.drewN k)from⟨rfl,rfl,rfl,DT _,fun _ _=>rfl⟩).trans ⟨rfl,rfl,rfl,?_,fun b hb=>?_⟩
 ·simp[Go.Sort.grow]
 ·have hb':b<(w.drewN k).heap.size:=hb;show ((w.drewN k).heap++os)[b]? = _;rw[E1 hb']
def xS{w:World}(h:GOKw w):Lib.TabIs Tryz.prog w "internal/strconv.uint64pow10" .u64 Lib.pow10Tab:=by
 obtain⟨t,fr,hp⟩:=h.pow
 have hn:Tryz.prog.globalNamed "internal/strconv.uint64pow10" = some 1:=by kernel_rfl
 unfold Lib.TabIs World.var?;rw[hn];simp only[Fx,hp]
def Bv(call:FuncId->List AV->M AV)(args:List AV)(h:Hp)(S:ao)(β:List a8)(w:World)(vs:List Value)(hr:og call args h≠.fail)(hg:lq β h w)(hw:Wf S w)(hh:bS S β w h)(hv:aE S β args vs):
  Calls Tryz.prog 70 vs.toArray w (cF none S β h w (og call args h)):=by
 unfold og at hr |-;split at hr
 ·rename_i n;simp only[aE,VR]at hv;obtain⟨v,r,rfl,rfl,rfl⟩:=hv;cases hc:(decide (-9223372036854775808<=n)&&decide (n<=9223372036854775807))with
  |false=>rw[hc]at hr;exact absurd rfl hr
  |true=>
   simp only[DK,DU]at hc;simp only[DJ];refine (Any.strconv_Itoa Dw n hc.1 hc.2 w (xS hg.1)).mono ?_;rintro e w' ⟨rfl,k,os,rfl⟩;exact bN hw hh (below_grow w k os) mA (by simp only[VR];exact⟨_,rfl,by rw[vP hc.1 hc.2]⟩)
 ·exact absurd rfl hr
def ln{S:ao}{β:List a8}{s:List UInt8}{r:List Value}{l:List AV}(hv:aE S β (.str s:: l) r):∃x r',r= .string x:: r'/\x.data.toList=s/\aE S β l r':=by
 simp only[aE,VR]at hv;obtain⟨v,r',rfl,⟨x,rfl,hx⟩,h⟩:=hv;exact⟨x,r',rfl,hx,h⟩
def Bw(call:FuncId->List AV->M AV)(args:List AV)(h:Hp)(S:ao)(β:List a8)(w:World)(vs:List Value)(hr:fL call args h≠.fail)(hg:lq β h w)(hw:Wf S w)(hh:bS S β w h)(hv:aE S β args vs):
  Calls Tryz.prog 82 vs.toArray w (cF none S β h w (fL call args h)):=by
 unfold fL at hr |-;split at hr
 ·rename_i s t;obtain⟨x,r,rfl,hx,hv⟩:=ln hv;obtain⟨y,r,rfl,hy,hv⟩:=ln hv;simp only[aE]at hv;subst hv;cases hc:decide (s.length<4294967281)with
  |false=>rw[hc]at hr;exact absurd rfl hr
  |true=>
   simp only[DJ];have hlen:x.size=s.length:=by rw[<- hx,EC];rfl
   obtain⟨m,hm⟩:=hg.1.max;refine (Any.strings_Contains Dx x y m w (by have:=FD hc;omega) hm).mono ?_;rintro e w' ⟨rfl,rfl⟩;exact bN hw hh (Below.refl _ _) mA (by simp only[VR];rw[hx,hy])
 ·exact absurd rfl hr
end Go.Proofs.YtgpmcoffkopjeaaGreatDoor
namespace Go.Proofs
open Go.Shelf
def Dq:Go.Shelf.Ren:=⟨fun|6=>57|15=>94|14=>93|28=>133|29=>134|20=>125|21=>126|22=>127|23=>128|24=>129|25=>130|26=>131|27=>132|46=>149|47=>150|48=>151|49=>152|50=>153|57=>171|n=>n,fun|22=>30|24=>37|25=>92|3=>3|39=>117|0=>0|53=>140|55=>142|4=>4|46=>133|45=>132|50=>137|5=>5|9=>9|66=>152|70=>156|76=>173|77=>174|n=>n,fun|n=>n⟩
def Dn:Go.Proofs.SlLaysF0.n6 Tryz.prog Dq:={
 mixed:=by kernel_rfl
 f6:=⟨Tryz.f57.name,by decide,Tryz.func57.trans (DL some (by kernel_rfl))⟩
 f14:=⟨Tryz.f93.name,by decide,Tryz.func93.trans (DL some (by kernel_rfl))⟩
 f15:=Tryz.func94.trans (DL some (by kernel_rfl))
 f20:=⟨Tryz.f125.name,by decide,Tryz.func125.trans (DL some (by kernel_rfl))⟩
 f21:=⟨Tryz.f126.name,by decide,Tryz.func126.trans (DL some (by kernel_rfl))⟩
 f22:=⟨Tryz.f127.name,by decide,Tryz.func127.trans (DL some (by kernel_rfl))⟩
 f23:=⟨Tryz.f128.name,by decide,Tryz.func128.trans (DL some (by kernel_rfl))⟩
 f24:=⟨Tryz.f129.name,by decide,Tryz.func129.trans (DL some (by kernel_rfl))⟩
 f25:=⟨Tryz.f130.name,by decide,Tryz.func130.trans (DL some (by kernel_rfl))⟩
 f26:=⟨Tryz.f131.name,by decide,Tryz.func131.trans (DL some (by kernel_rfl))⟩
 f27:=⟨Tryz.f132.name,by decide,Tryz.func132.trans (DL some (by kernel_rfl))⟩
 f28:=Tryz.func133.trans (DL some (by kernel_rfl))
 f29:=Tryz.func134.trans (DL some (by kernel_rfl))
 f46:=⟨Tryz.f149.name,by decide,Tryz.func149.trans (DL some (by kernel_rfl))⟩
 f47:=Tryz.func150.trans (DL some (by kernel_rfl))
 f48:=Tryz.func151.trans (DL some (by kernel_rfl))
 f49:=⟨Tryz.f152.name,by decide,Tryz.func152.trans (DL some (by kernel_rfl))⟩
 f50:=⟨Tryz.f153.name,by decide,Tryz.func153.trans (DL some (by kernel_rfl))⟩
 f57:=⟨Tryz.f171.name,by decide,Tryz.func171.trans (DL some (by kernel_rfl))⟩
 t0:=Tryz.underlying0
 a0:=Tryz.isAgg0
 z0:=Tryz.sizeOf0
 v0:=Tryz.zeroValue0
 t3:=Tryz.underlying3
 a3:=Tryz.isAgg3
 z3:=Tryz.sizeOf3
 v3:=Tryz.zeroValue3
 t4:=Tryz.underlying4
 a4:=Tryz.isAgg4
 z4:=Tryz.sizeOf4
 v4:=Tryz.zeroValue4
 t5:=Tryz.underlying5
 a5:=Tryz.isAgg5
 z5:=Tryz.sizeOf5
 v5:=Tryz.zeroValue5
 t9:=Tryz.underlying9
 a9:=Tryz.isAgg9
 z9:=Tryz.sizeOf9
 v9:=Tryz.zeroValue9
 t22:=Tryz.underlying30
 a22:=Tryz.isAgg30
 z22:=Tryz.sizeOf30
 v22:=Tryz.zeroValue30
 t25:=Tryz.underlying92
 a25:=Tryz.isAgg92
 z25:=Tryz.sizeOf92
 v25:=Tryz.zeroValue92
 t39:=Tryz.underlying117
 a39:=Tryz.isAgg117
 z39:=Tryz.sizeOf117
 v39:=Tryz.zeroValue117
 t45:=Tryz.underlying132
 a45:=Tryz.isAgg132
 z45:=Tryz.sizeOf132
 v45:=Tryz.zeroValue132
 t46:=Tryz.underlying133
 a46:=Tryz.isAgg133
 z46:=Tryz.sizeOf133
 v46:=Tryz.zeroValue133
 t50:=Tryz.underlying137
 a50:=Tryz.isAgg137
 z50:=Tryz.sizeOf137
 v50:=Tryz.zeroValue137
 t53:=Tryz.underlying140
 a53:=Tryz.isAgg140
 z53:=Tryz.sizeOf140
 v53:=Tryz.zeroValue140
 t55:=Tryz.underlying142
 a55:=Tryz.isAgg142
 z55:=Tryz.sizeOf142
 v55:=Tryz.zeroValue142
 t66:=Tryz.underlying152
 a66:=Tryz.isAgg152
 z66:=Tryz.sizeOf152
 v66:=Tryz.zeroValue152
 t70:=Tryz.underlying156
 a70:=Tryz.isAgg156
 z70:=Tryz.sizeOf156
 v70:=Tryz.zeroValue156
 t76:=Tryz.underlying173
 a76:=Tryz.isAgg173
 z76:=Tryz.sizeOf173
 v76:=Tryz.zeroValue173
 t77:=Tryz.underlying174
 a77:=Tryz.isAgg174
 z77:=Tryz.sizeOf174
 v77:=Tryz.zeroValue174 }
def Dt:Go.Shelf.Ren:=⟨fun|172=>110|244=>142|245=>143|247=>162|279=>163|280=>164|281=>165|282=>166|287=>178|316=>179|171=>70|205=>180|321=>184|322=>185|243=>108|246=>140|283=>157|284=>158|285=>159|286=>160|129=>134|317=>174|318=>175|319=>176|320=>177|337=>182|338=>183|n=>n,fun|9=>9|3=>3|75=>70|76=>71|4=>4|5=>5|167=>166|37=>66|0=>0|85=>167|2=>2|168=>169|53=>142|175=>182|46=>117|210=>185|127=>97|145=>192|143=>190|21=>21|171=>162|173=>164|212=>179|51=>140|20=>20|213=>180|232=>193|233=>194|80=>76|n=>n,fun|15=>2|16=>3|17=>1|18=>4|19=>5|n=>n⟩
def Do:Go.Proofs.LaysC.n172 Tryz.prog Dt:={
 mixed:=by kernel_rfl
 f129:=Tryz.func134.trans (DL some (by kernel_rfl))
 f171:=Tryz.func70.trans (DL some (by kernel_rfl))
 f172:=Tryz.func110.trans (DL some (by kernel_rfl))
 f205:=Tryz.func180.trans (DL some (by kernel_rfl))
 f243:=Tryz.func108.trans (DL some (by kernel_rfl))
 f244:=Tryz.func142.trans (DL some (by kernel_rfl))
 f245:=Tryz.func143.trans (DL some (by kernel_rfl))
 f246:=Tryz.func140.trans (DL some (by kernel_rfl))
 f247:=Tryz.func162.trans (DL some (by kernel_rfl))
 f279:=Tryz.func163.trans (DL some (by kernel_rfl))
 f280:=Tryz.func164.trans (DL some (by kernel_rfl))
 f281:=Tryz.func165.trans (DL some (by kernel_rfl))
 f282:=Tryz.func166.trans (DL some (by kernel_rfl))
 f283:=Tryz.func157.trans (DL some (by kernel_rfl))
 f284:=Tryz.func158.trans (DL some (by kernel_rfl))
 f285:=Tryz.func159.trans (DL some (by kernel_rfl))
 f286:=Tryz.func160.trans (DL some (by kernel_rfl))
 f287:=Tryz.func178.trans (DL some (by kernel_rfl))
 f316:=Tryz.func179.trans (DL some (by kernel_rfl))
 f317:=Tryz.func174.trans (DL some (by kernel_rfl))
 f318:=Tryz.func175.trans (DL some (by kernel_rfl))
 f319:=Tryz.func176.trans (DL some (by kernel_rfl))
 f320:=Tryz.func177.trans (DL some (by kernel_rfl))
 f321:=Tryz.func184.trans (DL some (by kernel_rfl))
 f322:=Tryz.func185.trans (DL some (by kernel_rfl))
 f337:=Tryz.func182.trans (DL some (by kernel_rfl))
 f338:=Tryz.func183.trans (DL some (by kernel_rfl))
 t0:=Tryz.underlying0
 a0:=Tryz.isAgg0
 z0:=Tryz.sizeOf0
 v0:=Tryz.zeroValue0
 t2:=Tryz.underlying2
 a2:=Tryz.isAgg2
 z2:=Tryz.sizeOf2
 v2:=Tryz.zeroValue2
 t3:=Tryz.underlying3
 a3:=Tryz.isAgg3
 z3:=Tryz.sizeOf3
 v3:=Tryz.zeroValue3
 t4:=Tryz.underlying4
 a4:=Tryz.isAgg4
 z4:=Tryz.sizeOf4
 v4:=Tryz.zeroValue4
 t5:=Tryz.underlying5
 a5:=Tryz.isAgg5
 z5:=Tryz.sizeOf5
 v5:=Tryz.zeroValue5
 t9:=Tryz.underlying9
 a9:=Tryz.isAgg9
 z9:=Tryz.sizeOf9
 v9:=Tryz.zeroValue9
 t20:=Tryz.underlying20
 a20:=Tryz.isAgg20
 z20:=Tryz.sizeOf20
 v20:=Tryz.zeroValue20
 t21:=Tryz.underlying21
 a21:=Tryz.isAgg21
 z21:=Tryz.sizeOf21
 v21:=Tryz.zeroValue21
 t37:=Tryz.underlying66
 a37:=Tryz.isAgg66
 z37:=Tryz.sizeOf66
 v37:=Tryz.zeroValue66
 t46:=Tryz.underlying117
 a46:=Tryz.isAgg117
 z46:=Tryz.sizeOf117
 v46:=Tryz.zeroValue117
 t51:=Tryz.underlying140
 a51:=Tryz.isAgg140
 z51:=Tryz.sizeOf140
 v51:=Tryz.zeroValue140
 t53:=Tryz.underlying142
 a53:=Tryz.isAgg142
 z53:=Tryz.sizeOf142
 v53:=Tryz.zeroValue142
 t75:=Tryz.underlying70
 a75:=Tryz.isAgg70
 z75:=Tryz.sizeOf70
 v75:=Tryz.zeroValue70
 t76:=Tryz.underlying71
 a76:=Tryz.isAgg71
 z76:=Tryz.sizeOf71
 v76:=Tryz.zeroValue71
 t85:=Tryz.underlying167
 a85:=Tryz.isAgg167
 z85:=Tryz.sizeOf167
 v85:=Tryz.zeroValue167
 t127:=Tryz.underlying97
 a127:=Tryz.isAgg97
 z127:=Tryz.sizeOf97
 v127:=Tryz.zeroValue97
 t143:=Tryz.underlying190
 a143:=Tryz.isAgg190
 z143:=Tryz.sizeOf190
 v143:=Tryz.zeroValue190
 t145:=Tryz.underlying192
 a145:=Tryz.isAgg192
 z145:=Tryz.sizeOf192
 v145:=Tryz.zeroValue192
 t167:=Tryz.underlying166
 a167:=Tryz.isAgg166
 z167:=Tryz.sizeOf166
 v167:=Tryz.zeroValue166
 t168:=Tryz.underlying169
 a168:=Tryz.isAgg169
 z168:=Tryz.sizeOf169
 v168:=Tryz.zeroValue169
 t171:=Tryz.underlying162
 a171:=Tryz.isAgg162
 z171:=Tryz.sizeOf162
 v171:=Tryz.zeroValue162
 t173:=Tryz.underlying164
 a173:=Tryz.isAgg164
 z173:=Tryz.sizeOf164
 v173:=Tryz.zeroValue164
 t175:=Tryz.underlying182
 a175:=Tryz.isAgg182
 z175:=Tryz.sizeOf182
 v175:=Tryz.zeroValue182
 t210:=Tryz.underlying185
 a210:=Tryz.isAgg185
 z210:=Tryz.sizeOf185
 v210:=Tryz.zeroValue185
 t212:=Tryz.underlying179
 a212:=Tryz.isAgg179
 z212:=Tryz.sizeOf179
 v212:=Tryz.zeroValue179
 t213:=Tryz.underlying180
 a213:=Tryz.isAgg180
 z213:=Tryz.sizeOf180
 t232:=Tryz.underlying193
 a232:=Tryz.isAgg193
 z232:=Tryz.sizeOf193
 v232:=Tryz.zeroValue193
 t233:=Tryz.underlying194
 a233:=Tryz.isAgg194
 z233:=Tryz.sizeOf194
 v233:=Tryz.zeroValue194
 g15:=by kernel_rfl
 g16:=by kernel_rfl
 g17:=by kernel_rfl
 g18:=by kernel_rfl
 g19:=by kernel_rfl
 t80:=Tryz.underlying76
 a80:=Tryz.isAgg76
 z80:=Tryz.sizeOf76
 v80:=Tryz.zeroValue76
 i0:=by kernel_rfl
 i2:=by kernel_rfl
 i3:=by kernel_rfl
 i4:=by kernel_rfl
 i5:=by kernel_rfl
 i9:=by kernel_rfl
 i20:=by kernel_rfl
 i21:=by kernel_rfl
 i37:=by kernel_rfl
 i46:=by kernel_rfl
 i51:=by kernel_rfl
 i53:=by kernel_rfl
 i75:=by kernel_rfl
 i76:=by kernel_rfl
 i80:=by kernel_rfl
 i85:=by kernel_rfl
 i127:=by kernel_rfl
 i143:=by kernel_rfl
 i145:=by kernel_rfl
 i167:=by kernel_rfl
 i168:=by kernel_rfl
 i171:=by kernel_rfl
 i173:=by kernel_rfl
 i175:=by kernel_rfl
 i210:=by kernel_rfl
 i212:=by kernel_rfl
 i232:=by kernel_rfl
 i233:=by kernel_rfl
 m15:=by kernel_rfl
 m16:=by kernel_rfl
 m17:=by kernel_rfl
 m18:=by kernel_rfl
 m19:=by kernel_rfl
 c0:=by kernel_rfl
 c2:=by kernel_rfl
 c3:=by kernel_rfl
 c4:=by kernel_rfl
 c5:=by kernel_rfl
 c9:=by kernel_rfl
 c20:=by kernel_rfl
 c21:=by kernel_rfl
 c37:=by kernel_rfl
 c46:=by kernel_rfl
 c51:=by kernel_rfl
 c53:=by kernel_rfl
 c75:=by kernel_rfl
 c76:=by kernel_rfl
 c80:=by kernel_rfl
 c85:=by kernel_rfl
 c127:=by kernel_rfl
 c143:=by kernel_rfl
 c145:=by kernel_rfl
 c167:=by kernel_rfl
 c168:=by kernel_rfl
 c171:=by kernel_rfl
 c173:=by kernel_rfl
 c175:=by kernel_rfl
 c210:=by kernel_rfl
 c212:=by kernel_rfl
 c213:=by kernel_rfl
 c232:=by kernel_rfl
 c233:=by kernel_rfl }
def Du:Go.Shelf.Ren:=⟨fun|137=>109|217=>141|266=>161|n=>n,fun|9=>9|5=>5|3=>3|n=>n,fun|n=>n⟩
def Dy:Go.Proofs.Lays.n137 Tryz.prog Du:={
 mixed:=by kernel_rfl
 f137:=Tryz.func109.trans (DL some (by kernel_rfl))
 f217:=Tryz.func141.trans (DL some (by kernel_rfl))
 f266:=Tryz.func161.trans (DL some (by kernel_rfl))
 t3:=Tryz.underlying3
 a3:=Tryz.isAgg3
 z3:=Tryz.sizeOf3
 v3:=Tryz.zeroValue3
 t5:=Tryz.underlying5
 a5:=Tryz.isAgg5
 z5:=Tryz.sizeOf5
 v5:=Tryz.zeroValue5
 t9:=Tryz.underlying9
 a9:=Tryz.isAgg9
 z9:=Tryz.sizeOf9
 v9:=Tryz.zeroValue9 }
end Go.Proofs
namespace Go.Proofs.YtgpmcoffkopjeaaGreatDoor
open Go Go.Av Go.RowKit
set_option maxRecDepth 100000
def zG(call:FuncId->List AV->M AV)(args:List AV)(h:Hp)(S:ao)(β:List a8)(w:World)(vs:List Value)(hr:nD 169 call args h≠.fail)(hg:lq β h w)(hw:Wf S w)(hh:bS S β w h)(hv:aE S β args vs):
  Calls Tryz.prog 110 vs.toArray w (cF none S β h w (nD 169 call args h)):=by
 unfold nD at hr |-;split at hr
 ·rename_i s;obtain⟨x,r,rfl,hx,hv⟩:=ln hv;simp only[aE]at hv;subst hv;cases hc:decide (s.length<=281474976710656)with
  |false=>rw[hc]at hr;exact absurd rfl hr
  | true=>
   simp only[DJ];have hlen:x.size=s.length:=by rw[<- hx,EC];rfl
   have hlim:=FD hc;subst hx;cases ha:Lib.atoiAll x.data.toList with
   |ok v=>
    refine (Any.strconv_Atoi_ok Do x (by omega) v ha w).mono ?_;rintro e w' ⟨rfl,hW⟩;refine bN hw hh ?_ mA (by simp only[kw,ha,VR,aE];exact⟨[_,_],rfl,_,_,rfl,rfl,_,_,rfl,rfl,rfl⟩);rcases hW with rfl|⟨t,rfl⟩
    ·exact Below.refl _ _
    ·exact Lib.bytesWorld_below _ _ _
   |range=>
    obtain⟨t,p,hs⟩:=hg.1.rng;refine (Any.strconv_Atoi_range Do x (by omega) ha _ w hs (.inr ⟨t,p,rfl⟩)).mono ?_;rintro e w' ⟨N,rfl,_,_,hb⟩;exact bN hw hh hb mA (by simp only[kw,ha,VR,aE];exact⟨[_,_],rfl,_,_,rfl,rfl,_,_,rfl,⟨_,rfl,trivial⟩,rfl⟩)
   |_=>
    obtain⟨t,p,hs⟩:=hg.1.syn;refine (Any.strconv_Atoi_syntax Do x (by omega) ha _ w hs (.inr ⟨t,p,rfl⟩)).mono ?_;rintro e w' ⟨N,rfl,_,_,hb⟩;exact bN hw hh hb mA (by simp only[kw,ha,VR,aE];exact⟨[_,_],rfl,_,_,rfl,rfl,_,_,rfl,⟨_,rfl,trivial⟩,rfl⟩)
 ·exact absurd rfl hr
def zF(call:FuncId->List AV->M AV)(args:List AV)(h:Hp)(S:ao)(β:List a8)(w:World)(vs:List Value)(hr:d7 call args h≠.fail)(_hg:lq β h w)(hw:Wf S w)(hh:bS S β w h)(hv:aE S β args vs):
  Calls Tryz.prog 109 vs.toArray w (cF none S β h w (d7 call args h)):=by
 unfold d7 at hr |-;split at hr
 ·rename_i s n;obtain⟨x,r,rfl,hx,hv⟩:=ln hv;simp only[aE,VR]at hv;obtain⟨_,_,rfl,rfl,rfl⟩:=hv;refine (Any.strings_IndexByte Dy x n w).mono ?_;rintro e w' ⟨rfl,rfl⟩;exact bN hw hh (Below.refl _ _) mA (by simp only[VR];rw[hx])
 ·exact absurd rfl hr
def yy:∃j,Tryz.prog.info? 68=some j/\j.size=2:=by
 have h:(Tryz.prog.info? 68).map (·.size)=some 2:=by kernel_rfl
 obtain⟨j,h1,h2⟩:=EK.1 h;exact⟨j,h1,h2⟩
set_option maxHeartbeats 1000000 in
def w8(b:Nat)(w:World)(h0:w.cell? ⟨b,0,none⟩=some (.pointer (some ⟨b,0,none⟩))):
  Calls Tryz.prog 69 #[.pointer (some ⟨b,0,none⟩)] w fun e w'=>e= .returned (.tuple #[])/\w'=w:=by
 obtain⟨j,hj,_⟩:=yy
 go_enter Tryz.func69,Tryz.ntmps69
 go_wp2
 rw[Lib.run_neq_ptr_same w _ Tryz.underlying65 hj]
 go_wp2
 go_end0
 exact⟨rfl,rfl⟩
set_option maxHeartbeats 1000000 in
def u6(b T n:Nat)(w:World)(h0:w.cell? ⟨b,0,none⟩=some (.pointer none))(hsh:w.shape? b=some (T,n))(hn:0<n)(hfz:w.frozen? ⟨b,0,none⟩=false)(hlies:liesAt Tryz.prog Tryz.prog.depth T (n / Tryz.prog.cellsOf T) 0 68 1=true):
  Calls Tryz.prog 69 #[.pointer (some ⟨b,0,none⟩)] w fun e w'=>e= .returned (.tuple #[])/\w'=w.setCell ⟨b,0,none⟩ (.pointer (some ⟨b,0,none⟩)):=by
 obtain⟨j,hj,hjs⟩:=yy
 go_enter Tryz.func69,Tryz.ntmps69
 go_wp2
 rw[Lib.run_to_unsafe w ⟨b,0,none⟩ Tryz.underlying65 Tryz.underlying122 hj (by rw[hjs];decide) hsh hn];simp only[Result.andThen];rw[Oper.upon_value]
 go_wp2
 rw[run_callFunc_extern Tryz.func107 (by kernel_rfl) (by kernel_rfl) (by kernel_rfl) (e:=Extern.AbiNoEscape.same) (by kernel_rfl)];rw[Lib.run_noEscape];simp only[Result.andThen];rw[Oper.upon_value]
 go_wp2
 rw[Lib.run_from_unsafe w ⟨b,0,none⟩ Tryz.underlying122 Tryz.underlying65 hj hsh hlies];simp only[Result.andThen];rw[Oper.upon_value]
 go_wp2
 go_end0
 exact⟨rfl,rfl⟩
def tI:Tryz.prog.cellsOf 5=1:=by kernel_rfl
set_option maxHeartbeats 2000000 in
def zO(b g cap:Nat)(cur:Array Value)(l:List UInt8)(w:World)(h0:l≠[])(hlt:l.length<=cap)(hc1:w.cell? ⟨b,1,none⟩=some (.slice (some ⟨g,0,none⟩) l.length cap))(hg:w.heap[g]? = some (.cells cur 5 (0,0)))(hcm:l.length<=140737488355328)(hsz:l.length<=cur.size)(hcells:∀(j:Nat)(x:UInt8),l[j]? = some x->cur[j]? = some (Value.int .u8 x.toNat)):
  Calls Tryz.prog 33 #[.pointer (some ⟨b,0,none⟩)] w fun e w'=>e= .returned (.string ⟨l.toArray⟩)/\w'=w.drew.freeze ⟨g,0,none⟩ l.length:=by
 have hl0:l.length≠0:=by simpa using h0
 have c1:w.drew.cell? ⟨b,1,none⟩=some (.slice (some ⟨g,0,none⟩) l.length cap):=hc1;have hSD:(Builtin.unsafeSliceData_ #[66] 97 #[.slice (some ⟨g,0,none⟩) l.length cap]).run Tryz.prog w.drew= .ok (.pointer (some ⟨g,0,none⟩)) w.drew:=
  Lib.run_unsafeSliceData_row _ _ _ _ _ _ (by omega)
 have hUS:(Builtin.unsafeString_ #[97,3] 9 #[.pointer (some ⟨g,0,none⟩),.int .i64 l.length]).run Tryz.prog w.drew= .ok (.string ⟨l.toArray⟩) (w.drew.freeze ⟨g,0,none⟩ l.length):=by
  refine Lib.run_unsafeString_row w.drew 97 3 9 5 Tryz.underlying97 tI g cur.size (by have hg':w.drew.heap[g]? = some (.cells cur 5 (0,0)):=hg;simp[World.shape?,hg']) l h0 hsz (by omega) ?_;intro j x hx;have hg':w.drew.heap[g]? = some (.cells cur 5 (0,0)):=hg;rw[addr_add,Em,cell_of_row _ _ _ _ _ _ hg'];exact hcells j x hx
 go_enter Tryz.func33,Tryz.ntmps33
 go_wp2
 have mixed:Tryz.prog.follows Departure.mixedOrders=true:=by kernel_rfl
 go_region_o
 all_goals (go_wp2;go_ret;exact⟨rfl,rfl⟩)
set_option maxHeartbeats 2000000 in
theorem zN(b:Nat)(w:World)(hc1:w.cell? ⟨b,1,none⟩=some (.slice none 0 0)):
  Calls Tryz.prog 33 #[.pointer (some ⟨b,0,none⟩)] w fun e w'=>e= .returned (.string ⟨#[]⟩)/\w'=w.drew:=by
 have hUS:=fun W q=>Lib.run_unsafeString_none (P:=Tryz.prog) W 97 3 9 q;have c1:w.drew.cell? ⟨b,1,none⟩=some (.slice none 0 0):=hc1;have hSD:(Builtin.unsafeSliceData_ #[66] 97 #[.slice none 0 0]).run Tryz.prog w.drew= .ok (.pointer none) w.drew:=rfl
 go_enter Tryz.func33,Tryz.ntmps33
 go_wp2
 have mixed:Tryz.prog.follows Departure.mixedOrders=true:=by kernel_rfl
 go_region_o
 all_goals (go_wp2;go_ret;exact⟨rfl,rfl⟩)
def sk{P:Program}{fits:TypeId->Bool}{d:Nat}{e:TypeId}{c c' off n:Nat}(hc:c<=c')(h:rowAt P fits d e c off n=true):rowAt P fits d e c' off n=true:=by
 cases d with
 |zero=>simp[rowAt]at h
 | succ d=>
  simp only[rowAt]at h|-;split at h
  ·cases h
  ·rename_i hs;rw[if_neg hs];simp only[Ey,DK,DU]at h|-;rcases h with h|h
   ·exact .inl ⟨⟨h.1.1,by omega⟩,h.2⟩
   ·exact .inr ⟨by omega,h.2⟩
theorem kM{P:Program}{u:TypeId}{e:TypeId}{c c' off:Nat}(hc:c<=c'):∀(d:Nat)(u:TypeId)(n:Nat),liesAt P d e c off u n=true->liesAt P d e c' off u n=true
 |0,u,n,h=>by simp[liesAt]at h
 | d+1,u,n,h=>by
  simp only[liesAt,Ey]at h|-;rcases h with h|h
  ·exact .inl (sk hc h)
  ·refine .inr ?_;split at h
   ·exact kM (u:=u) hc d _ _ h
   ·cases h
def Bl:liesAt Tryz.prog Tryz.prog.depth 68 1 0 68 1=true:=by kernel_rfl
def y0:Tryz.prog.cellsOf 68=2:=by kernel_rfl
def qX{w:World}{b:Nat}{z:Array Value}{t:TypeId}(hb:w.heap[b]? = some (.cells z t (0,0)))(v:Value):w.setCell ⟨b,0,none⟩ v=w.setRow b (z.setIfInBounds 0 v):=by
 unfold World.setCell World.setRow;congr 1;apply Array.ext (by simp);intro i h1 h2;simp only[Array.getElem_modify];split
 ·rename_i hi;subst hi;obtain⟨hlt,hk⟩:=Ef.1 hb;rw[hk];rfl
 ·rfl
def Bu(call:FuncId->List AV->M AV)(args:List AV)(h:Hp)(S:ao)(β:List a8)(w:World)(vs:List Value)(hr:e9 [(68,2)] call args h≠.fail)(hg:lq β h w)(hw:Wf S w)(hh:bS S β w h)(hv:aE S β args vs):
  Calls Tryz.prog 69 vs.toArray w (cF none S β h w (e9 [(68,2)] call args h)):=by
 unfold e9 at hr |-;cases hpo:tY args with
 |none=>rw[hpo]at hr;exact absurd rfl hr
 | some l=>
  rw[hpo]at hr
  have:=qt hpo
  subst this;simp only[aE,VR]at hv;obtain⟨_,_,rfl,⟨bk,hβ,hb0,rfl⟩,rfl⟩:=hv;obtain⟨b,nb⟩:=bk;dsimp only at hr |-;have hh0:=hh;obtain⟨hlen,ω,hhr⟩:=hh;cases hl:h[l]? with
  |none=>rw[hl]at hr;exact absurd rfl hr
  | some cs=>
   rw[hl]at hr;dsimp only at hr |-;cases hc:AU [(68,2)] l cs with
   |none=>rw[hc]at hr;exact absurd rfl hr
   | some cs'=>
    dsimp only;rcases w7 hc with⟨t,x,r,rfl,rfl,n,hm,hn⟩|⟨r,rfl,rfl⟩
    ·obtain⟨z,j1,j2,j3,j4,j5⟩:=hhr.cells hl (by simp) hβ hb0;obtain⟨y,hy⟩:=hhr.tag hl ⟨_,E6,rfl⟩ hβ;cases j2.inj ⟨t,hy⟩;have hsz:r.length+2<=z.size:=by
      have:=j4.length
      simp at this;omega
     have hz0:z[0]? = some (.pointer none):=by
      have:=j4.get (i:=0) (c:=.nilb t) rfl
      obtain⟨v,h1,h2⟩:=this;simp only[VR]at h2;subst h2;rw[DY]at h1;split at h1
      ·simpa using h1
      ·cases h1
     have hlies:liesAt Tryz.prog Tryz.prog.depth t (z.size / Tryz.prog.cellsOf t) 0 68 1=true:=by
      simp only[Eh,Ew,List.not_mem_nil,or_false]at hm;obtain⟨rfl,rfl⟩:=hm;rw[y0];exact kM (u:=68) (by omega) _ _ _ Bl
     refine (u6 b t z.size w (by rw[cell_of_row _ _ _ _ _ _ hy];exact hz0) (by simp[World.shape?,hy]) (by omega) (by simp[World.frozen?,hy]) hlies).mono ?_;rintro e w' ⟨rfl,rfl⟩;rw[qX hy];refine rD hg hw hh0 hl (by simp) hβ j2 (by simp) ?_ (fun t' ht=>?_)
     ·have hzl:z.toList= .pointer none:: z.toList.drop 1:=by
       have:=EN (l:=z.toList) (i:=0) (by simp;omega)
       simp only[Fa]at this;rw[this];congr 1;have h3:z.toList[0]? = some (.pointer none):=by simpa using hz0
       rw[D5 (by simp;omega)]at h3;simpa using h3
      have hz2:(z.setIfInBounds 0 (.pointer (some ⟨b,0,none⟩))).toList= .pointer (some ⟨b,0,none⟩):: z.toList.drop 1:=by
       simp only[Array.toList_setIfInBounds];rw[hzl];rfl
      rw[hz2];rw[hzl]at j4;simp only[Ec,Fy,aE,VR]at j4 |-;obtain⟨_,_,h1,_,h2⟩:=j4;obtain⟨rfl,rfl⟩:=List.cons.inj h1;exact⟨_,_,rfl,⟨(b,nb),hβ,hb0,rfl⟩,h2⟩
     ·rcases ht.cons with ht|ht
      ·cases ht
      ·exact ht.mono fun a ha=>Fw _ ha
    ·obtain⟨z,j1,j2,j3,j4,j5⟩:=hhr.cells hl (by simp) hβ hb0;have hz0:z[0]? = some (.pointer (some ⟨b,0,none⟩)):=by
      have:=j4.get (i:=0) (c:=.hp l 0) rfl
      obtain⟨v,h1,h2⟩:=this;simp only[VR]at h2;obtain⟨bk,hbk,_,rfl⟩:=h2;rw[hβ]at hbk;cases hbk;rw[DY]at h1;split at h1
      ·simpa using h1
      ·cases h1
     have hset:h.set l (.hp l 0:: r)=h:=by
      obtain⟨hlt,hk⟩:=EM.1 hl;rw[<- hk];exact List.set_getElem_self hlt
     rw[hset];refine (w8 b w (by rw[j2.cell];exact hz0)).mono ?_;rintro e w' ⟨rfl,rfl⟩;exact bN hw hh0 (Below.refl _ _) mA (by simp only[VR];exact⟨[],rfl,by simp[aE]⟩)
theorem nJ{S:ao}{β:List a8}{e:Nat}:{cs:List AV} ->{s:List UInt8} ->{vs:List Value} ->fD e cs=some s->aE S β cs vs->s.length=cs.length/\(∀(j:Nat)(x:UInt8),s[j]? = some x->vs[j]? = some (Value.int .u8 x.toNat))/\∀x∈cs,jH x=some e
 |[],s,vs,h,_=>by
  simp only[fD,DI]at h;subst h;exact⟨rfl,fun j x hx=>by simp at hx,fun x hx=>by cases hx⟩
 | c :: cs,s,vs,h,hv=>by
  simp only[fD]at h;cases h1:nI e c with
  |none=>rw[h1]at h;cases h
  | some b=>
   cases h2:fD e cs with
   |none=>rw[h1,h2]at h;cases h
   | some l=>
    rw[h1,h2]at h;simp only[DI]at h;subst h;simp only[aE]at hv;obtain⟨y,ys,rfl,hy,hv⟩:=hv;obtain⟨k1,k2,k3⟩:=nJ h2 hv;unfold nI at h1;split at h1
    ·rename_i t n;cases hc:(Nat.beq t e&&decide (0<=n)&&decide (n<256))with
     |false=>rw[hc]at h1;cases h1
     | true=>
      rw[hc]at h1;simp only[DJ,DI]at h1;simp only[DK,DU]at hc;obtain⟨⟨c1,c2⟩,c3⟩:=hc;have c1:=DN c1;subst c1 h1;simp only[VR]at hy;subst hy;refine⟨by simp[k1],fun j x hx=>?_,fun x hx=>?_⟩
      ·cases j with
       |zero=>
        simp only[D3,DI]at hx |-;subst hx;congr 1;have:(UInt8.ofNat n.toNat).toNat=n.toNat % 256:=rfl;rw[this,FX (by omega)];omega
       |succ j=>exact k2 j x (by simpa using hx)
      ·rcases Eh.1 hx with rfl|hx
       ·rfl
       ·exact k3 x hx
    ·cases h1
def rQ{w:World}{g n:Nat}:Gro w (w.drew.freeze ⟨g,0,none⟩ n)/\(w.drew.freeze ⟨g,0,none⟩ n).heap.size=w.heap.size/\∀k,k≠g->(w.drew.freeze ⟨g,0,none⟩ n).heap[k]? = w.heap[k]?:=by
 have h1:Gro w.drew (w.drew.freeze ⟨g,0,none⟩ n)/\(w.drew.freeze ⟨g,0,none⟩ n).heap.size=w.drew.heap.size/\∀k,k≠g->(w.drew.freeze ⟨g,0,none⟩ n).heap[k]? = w.drew.heap[k]?:=by
  generalize w.drew=v;unfold World.freeze;split
  ·exact⟨Gro.refl _,rfl,fun _ _=>rfl⟩
  ·refine⟨⟨by simp,rfl,rfl,rfl,fun _=>DT _⟩,by simp,fun k hk=>?_⟩;simp only[FK];rw[if_neg (by omega)]
 exact⟨(Gro.drew w).trans h1.1,h1.2.1,h1.2.2⟩
def Bp(call:FuncId->List AV->M AV)(args:List AV)(h:Hp)(S:ao)(β:List a8)(w:World)(vs:List Value)(hr:dc 5 call args h≠.fail)(hg:lq β h w)(hw:Wf S w)(hh:bS S β w h)(hv:aE S β args vs):
  Calls Tryz.prog 33 vs.toArray w (cF none S β h w (dc 5 call args h)):=by
 unfold dc at hr |-;cases hpo:tY args with
 |none=>rw[hpo]at hr;exact absurd rfl hr
 | some l =>
  rw[hpo]at hr
  have:=qt hpo
  subst this;simp only[aE,VR]at hv;obtain⟨_,_,rfl,⟨bk,hβ,hb0,rfl⟩,rfl⟩:=hv;obtain⟨b,nb⟩:=bk;dsimp only at hr |-;have hh0:=hh;obtain⟨hlen,ω,hhr⟩:=hh;have one:∀ {cs:List AV} {x y:AV} {r:List AV},h[l]? = some cs->cs=x:: y:: r->∃v,w.cell? ⟨b,1,none⟩=some v/\VR S β y v:=by
   rintro cs x y r hl rfl;obtain⟨z,j1,j2,j3,j4,j5⟩:=hhr.cells hl (by simp) hβ hb0;obtain⟨v,h1,h2⟩:=j4.get (i:=1) (c:=y) rfl;rw[DY]at h1;split at h1
   ·exact⟨v,by rw[j2.cell];simpa using h1,h2⟩
   ·cases h1
  cases hl:h[l]? with
  |none=>rw[hl]at hr;exact absurd rfl hr
  | some cs0=>
   rw[hl]at hr;dsimp only at hr |-;cases hst:stA cs0 with
   |none=>rw[hst]at hr;exact absurd rfl hr
   | some q=>
    rw[hst]at hr;cases q with
    |none=>
     dsimp only;obtain⟨x,r,hx⟩:=wC hst;obtain⟨v,hc1,hv1⟩:=one hl hx;simp only[VR]at hv1;subst hv1;refine (zN b w hc1).mono ?_;rintro e w' ⟨rfl,rfl⟩;exact bN (w':=w.drew) (r:=.str []) (v:=.string ⟨#[]⟩) hw hh0 ⟨rfl,rfl,rfl,DT _,fun _ _=>rfl⟩ mA (by simp only[VR];exact⟨_,rfl,rfl⟩)
    | some q=>
     obtain⟨lb,len⟩:=q;dsimp only at hr |-;obtain⟨x,r,hx,k1,k3⟩:=wD hst;obtain⟨v,hc1,hv1⟩:=one hl hx;cases hcs:h[lb]? with
     |none=>rw[hcs]at hr;exact absurd rfl hr
     | some cs=>
      rw[hcs]at hr;dsimp only at hr |-;cases hle:Nat.ble len cs.length with
      |false=>rw[hle]at hr;exact absurd rfl hr
      | true=>
       rw[hle]at hr;simp only[DJ]at hr |-;have k2:=FL hle;cases hb:fD 5 (cs.take len)with
       |none=>rw[hb]at hr;exact absurd rfl hr
       | some s=>
        dsimp only;obtain⟨b2,cap,hβ2,hb20,rfl,hlc,hcn⟩:=hv1.hs_pos k1;obtain⟨g,ng⟩:=b2;obtain⟨z,j1,j2,j3,j4,j5⟩:=hhr.cells hcs (by rintro rfl;simp at k2;omega) hβ2 hb20;have j6:=j4.take len;rw[E5,EW k2]at j6;obtain⟨s1,s2,s3⟩:=nJ hb j6;have hsl:s.length=len:=by rw[s1];simp;omega
        have hin:bL 5 cs:=by
         cases cs with
         |nil=>simp at k2;omega
         |cons c cs=>
          refine⟨c,E6,s3 c ?_⟩;obtain⟨m,rfl⟩:∃m,len=m+1:=⟨len-1,by omega⟩;simp
        obtain⟨y,hy⟩:=hhr.tag hcs hin hβ2;cases j2.inj ⟨_,hy⟩;have hzl:cs.length<=z.size:=by have:=j4.length;simp at this;omega
        have hcell:∀(j:Nat)(x:UInt8),s[j]? = some x->z[j]? = some (Value.int .u8 x.toNat):=fun j x hx=>by
         have:=s2 j x hx
         rw[DY]at this;split at this
         ·simpa using this
         ·cases this
        subst hsl;refine (zO b g cap z s w (by rintro rfl;simp at k1) hlc hc1 hy k3 (by omega) hcell).mono ?_;rintro e w' ⟨rfl,rfl⟩;obtain⟨f1,f2,f3⟩:=rQ (w:=w) (g:=g) (n:=s.length);exact rC hg hw hh0 hcs (by rintro rfl;rw[Es]at k2;omega) hβ2 f1 f2 f3 (by simp only[VR];exact⟨_,rfl,rfl⟩)
end Go.Proofs.YtgpmcoffkopjeaaGreatDoor
namespace Go.Proofs.YtgpmcoffkopjeaaGreatDoor
open Go Go.Av Go.RowKit Go.Shelf
attribute [local go_sem] Oper.semAt_some
abbrev b8:=ByteArray×Int×(Option Addr×Nat×Nat)
def b8.k(x:b8):Value:=.int .i64 x.2.1
def b8.f(x:b8):Value:=.slice x.2.2.1 x.2.2.2.1 x.2.2.2.2
def uq(x:b8):Value:=.agg #[.string x.1,x.k,x.f]
def back(zs:List b8)(k:Nat):List (Nat×b8):=(List.range k).map fun j=>(zs.length-1-j,zs[zs.length-1-j]?.getD default)
def nE(zs:List b8)(k:Nat):back zs (k+1)=back zs k++[(zs.length-1-k,zs[zs.length-1-k]?.getD default)]:=by simp[back,List.range_succ]
def pL(zs:List b8)(k:Nat):(back zs k).length=k:=by simp[back]
def lp(W:World)(b off:Nat)(zs:List b8):Prop:=∀j,j<zs.length->W.cell? ⟨b,off+j*3,none⟩=some (.string (zs[j]?.getD default).1)/\W.cell? ⟨b,off+j*3+1,none⟩=some (zs[j]?.getD default).k/\W.cell? ⟨b,off+j*3+2,none⟩=some (zs[j]?.getD default).f
def lp.below{n₀:Nat}{A B:World}(h:Below n₀ A B){b off:Nat}(hb:b<n₀){zs:List b8}(c:lp A b off zs):lp B b off zs:=fun j hj=>by
 obtain⟨h1,h2,h3⟩:=c j hj;exact⟨(h.cell (p:=⟨b,_,none⟩) hb).trans h1,(h.cell (p:=⟨b,_,none⟩) hb).trans h2,(h.cell (p:=⟨b,_,none⟩) hb).trans h3⟩
set_option maxRecDepth 100000 in
set_option maxHeartbeats 2000000 in
def zt(F:Fence)(n:Nat)(h7:F.fn 173)(hro:F.round=none)(hn:1<=n)(l Bs n₀ b off cap:Nat)(zs:List b8)(hreach:zs.length<=1000000000)(hb:b<n₀)(hBn:Bs<n₀)(J Jx:List (Nat×b8)->World->Prop)
  (hY:∀pre x W,J pre W->pre.length<zs.length->YieldAt F (n-1) Tryz.prog l #[.int .i64 (x.1:Int),uq x.2] W fun e W'=>
   (e= .returned (.bool true)/\J (pre++[x]) W'/\Below n₀ W W')\/(e= .returned (.bool false)/\Jx (pre++[x]) W'))
  (W:World) (hBs:W.cell? ⟨Bs,0,none⟩=some (.slice (some ⟨b,off,none⟩) zs.length cap)) (hc:lp W b off zs) (h0:J [] W):
  CallsIn F n Tryz.prog 173 #[.func (.yield l) #[] #[],.pointer (some ⟨Bs,0,none⟩)] W fun e W'=>(∃v,e= .returned v)/\
   ((∃ys,ys=back zs zs.length/\J ys W')\/(∃pre,(∃k,k<=zs.length/\pre=back zs k)/\Jx pre W')):=by
 refine callsIn_of_wp Tryz.func173 rfl h7 ?_ hro;simp only[Tryz.ntmps173,Ff,Ec,Es,Nat.reduceAdd,Nat.reduceSub,FM,FN,FV,FQ,En,Ej]
 gi_wp2
 gi_loopw [3] (fun i wr=>∃k:Nat,k<=zs.length/\i= .int .i64 ((zs.length:Int)-1-k)/\J (back zs k) wr/\Below n₀ W wr)
  (fun i _=>(intOf i+1).toNat)
 case atStart=>exact⟨0,ER _,by simp,h0,Below.refl _ _⟩
 case round=>
  obtain⟨k,hk,rfl,hJs,hnx⟩:=hrel;have hbs:wr.cell? ⟨Bs,0,none⟩=some (.slice (some ⟨b,off,none⟩) zs.length cap):=(hnx.cell (p:=⟨Bs,0,none⟩) hBn).trans hBs;by_cases hlt:k<zs.length
  ·obtain⟨fn,tmps,assign,body,hy,hR⟩:=hY _ (zs.length-1-k,zs[zs.length-1-k]?.getD default) wr hJs (by rw[pL];exact hlt);dsimp only at hy;obtain⟨m,hm⟩:∃m:Nat,(zs.length:Int)-1-k=m:=⟨zs.length-1-k,by omega⟩;have hm':zs.length-1-k=m:=by omega
   rw[hm']at hy hR;rw[hm];obtain⟨c1,c2,c3⟩:=(hc.below hnx hb) m (by omega);generalize hz:zs[m]?.getD default=z at hy hR c1 c2 c3;obtain⟨z1,z2,z3,z4,z5⟩:=z;have hml:m<zs.length:=by omega
   simp only[uq,b8.k,b8.f]at hy c2 c3
   gi_wp2
   refine hR.mono ?_;rintro e W3 (⟨rfl,hJ3,hk3⟩|⟨rfl,hJx3⟩)
   ·gi_wp2
    go_roundw
    case rel=>exact⟨k+1,by omega,by congr 1;omega,by rw[nE,hm',hz];exact hJ3,hnx.trans hk3⟩
    case measure=>simp[intOf]<;>omega
   ·gi_wp2
    refine bodyPost_ret (results_none rfl _ _ _) rfl ?_;exact⟨⟨_,rfl⟩,.inr ⟨_,⟨k+1,by omega,by rw[nE,hm',hz]⟩,hJx3⟩⟩
  ·obtain rfl:k=zs.length:=by omega
   gi_wp2
   go_end0
   exact⟨⟨_,rfl⟩,.inl ⟨_,rfl,hJs⟩⟩
set_option maxRecDepth 100000 in
set_option maxHeartbeats 1000000 in
def rX(F:Fence)(n:Nat)(h7:F.fn 173)(hro:F.round=none)(l Bs:Nat)(p:Option Addr)(cap:Nat)(J:List (Nat×b8)->World->Prop)(W:World)(hBs:W.cell? ⟨Bs,0,none⟩=some (.slice p 0 cap))(h0:J [] W):
  CallsIn F n Tryz.prog 173 #[.func (.yield l) #[] #[],.pointer (some ⟨Bs,0,none⟩)] W fun e W'=>(∃v,e= .returned v)/\J [] W':=by
 refine callsIn_of_wp Tryz.func173 rfl h7 ?_ hro;simp only[Tryz.ntmps173,Ff,Ec,Es,Nat.reduceAdd,Nat.reduceSub,FM,FN,FV,FQ,En,Ej]
 gi_wp2
 gi_loopw [3] (fun i wr=>i= .int .i64 (-1)/\J [] wr) (fun _ _=>0)
 case atStart=>exact⟨rfl,h0⟩
 case round=>
  obtain⟨rfl,hJs⟩:=hrel
  gi_wp2
  go_end0
  exact⟨⟨_,rfl⟩,hJs⟩
set_option maxHeartbeats 1000000 in
def Bm(F:Fence)(n:Nat)(h5:F.fn 156)(hro:F.round=none)(a:Option Addr)(len cap:Nat)(w:World):
  CallsIn F n Tryz.prog 156 #[.slice a len cap] w fun e w'=>e= .returned (.func (.func 173) #[] #[.pointer (some ⟨w.heap.size,0,none⟩)])/\w'=w.alloc (.cells #[.slice a len cap] 23):=by
 refine callsIn_of_wp Tryz.func156 rfl h5 ?_ hro;simp only[Tryz.ntmps156,Ff,Ec,Es,Nat.reduceAdd,Nat.reduceSub,FM,FN,FV,FQ,En,Ej]
 gi_wp2
 go_ret
 exact⟨rfl,rfl⟩
def iU(n₀:Nat)(W:World)(sv:Value)(zs:List b8):Prop:=
 (zs=[]/\∃p cap,sv= .slice p 0 cap)\/∃b off cap,sv= .slice (some ⟨b,off,none⟩) zs.length cap/\b<n₀/\lp W b off zs
theorem iU.below{n₀:Nat}{A B:World}(h:Below n₀ A B){sv:Value}{zs:List b8}:iU n₀ A sv zs->iU n₀ B sv zs
 |.inl e=>.inl e
 |.inr ⟨b,off,cap,e,hb,hc⟩=>.inr ⟨b,off,cap,e,hb,hc.below h hb⟩
theorem iU.mono{n n':Nat}(h:n<=n'){W:World}{sv:Value}{zs:List b8}:iU n W sv zs->iU n' W sv zs
 |.inl e=>.inl e
 |.inr ⟨b,off,cap,e,hb,hc⟩=>.inr ⟨b,off,cap,e,Ei hb h,hc⟩
def vS(F:Fence)(n:Nat)(h8:F.fn 173)(hro:F.round=none)(hn:1<=n)(Bs:Nat)(sv:Value)(zs:List b8)(hreach:zs.length<=1000000000)(w:World)(hBs:Bs<w.heap.size)(hc:w.cell? ⟨Bs,0,none⟩=some sv)(hI:iU w.heap.size w sv zs):
  SeqStopsK F n Tryz.prog 173 #[.pointer (some ⟨Bs,0,none⟩)] (fun x:Nat×b8=>#[Value.int .i64 (x.1:Int),uq x.2]) (Below w.heap.size) (fun ys=>ys=back zs zs.length)
   (fun pre=>∃k,k<=zs.length/\pre=back zs k) zs.length w:=fun l J Jx W hW _ _ hY h0=>by
 have hc':=(hW.cell (p:=⟨Bs,0,none⟩) hBs).trans hc;rcases hI.below hW with⟨rfl,p,cap,rfl⟩|⟨b,off,cap,rfl,hb,hcs⟩
 ·exact (rX F n h8 hro l Bs p cap J W hc' h0).mono fun e W' ⟨he,hj⟩=>⟨he,.inl ⟨_,rfl,hj⟩⟩
 ·exact zt F n h8 hro hn l Bs w.heap.size b off cap zs hreach hb hBs J Jx hY W hc' hcs h0
def ka(zs:List b8)(x:ByteArray):Option b8:=zs.reverse.find? fun z=>decide (z.1=x)
def o3(zs:List b8)(x:ByteArray)(z0 z1:Value):Value:=match ka zs x with
 |some z=>.tuple #[.agg #[z.k,z.f],.bool true]
 |none=>.tuple #[.agg #[z0,z1],.bool false]
def pM(zs:List b8){k:Nat}(hk:k<=zs.length):(back zs k).map (·.2)=zs.reverse.take k:=by
 apply List.ext_getElem
 ·simp[back,hk]
 ·intro i h1 h2;have hi:i<k:=by simpa [back]using h1
  have h3:zs.length-1-i<zs.length:=by omega
  simp[back,h3]
def qC{zs:List b8}{x:ByteArray}(h:∀p∈back zs zs.length,p.2.1≠x):ka zs x=none:=by
 unfold ka;rw[List.find?_eq_none];intro z hz;have hm:=pM zs (DT _);rw[ES (by simp)]at hm;rw[<- hm]at hz;obtain⟨p,hp,rfl⟩:=Fe.1 hz;simpa using h p hp
def qD{zs:List b8}{x:ByteArray}{k:Nat}(hk:k<=zs.length){ini:List (Nat×b8)}{last:Nat×b8}(e1:back zs k=ini++[last])(e2:∀p∈ini,p.2.1≠x)(e3:last.2.1=x):ka zs x=some last.2:=by
 have hm:=pM zs hk;rw[e1,List.map_append]at hm;unfold ka;rw[<- Fp k zs.reverse,<- hm,EO,List.find?_append];have h1:(ini.map (·.2)).find? (fun z=>decide (z.1=x))=none:=by
  rw[List.find?_eq_none];intro z hz;obtain⟨p,hp,rfl⟩:=Fe.1 hz;simpa using e2 p hp
 rw[h1];simp[e3]
def bJ(W:World)(B:Nat)(t:TypeId)(cs:Array Value):Prop:=W.heap[B]? = some (.cells cs t (0,0))
def bJ.lt{W:World}{B:Nat}{t:TypeId}{cs:Array Value}(h:bJ W B t cs):B<W.heap.size:=(Ef.1 h).1
def bJ.cell{W:World}{B:Nat}{t:TypeId}{cs:Array Value}(h:bJ W B t cs)(o:Nat):W.cell? ⟨B,o,none⟩=cs[o]?:=by simp[World.cell?,show W.heap[B]? = _ from h]
def bJ.frozen{W:World}{B:Nat}{t:TypeId}{cs:Array Value}(h:bJ W B t cs)(o:Nat):W.frozen? ⟨B,o,none⟩=false:=by simp[World.frozen?,show W.heap[B]? = _ from h]
def bJ.new(W:World)(t:TypeId)(cs:Array Value):bJ (W.alloc (.cells cs t)) W.heap.size t cs:=World.alloc_heap_new W _
def bJ.kept{W W':World}{row:Option Nat}{B:Nat}{t:TypeId}{cs:Array Value}(h:bJ W B t cs)(hg:W.grownBy W' row)(hne:some B≠row):bJ W' B t cs:=(hg.block B h.lt hne).trans h
def bJ.alloc{W:World}{B:Nat}{t:TypeId}{cs:Array Value}(h:bJ W B t cs)(o:Obj):bJ (W.alloc o) B t cs:=h.kept (World.grownBy_alloc W o none) (by simp)
def bJ.put{W:World}{B:Nat}{t:TypeId}{cs:Array Value}(h:bJ W B t cs){l:Nat}{o:Obj}(o':Obj)(hl:W.heap[l]? = some o)(ho:o.isCells=false):bJ (W.putObj l o') B t cs:=
 h.kept (grownBy_putObj' W l o') (fun e=>by cases e;rw[show W.heap[B]? = _ from h]at hl;cases hl;cases ho)
def nd(W:World)(b o:Nat)(v:Value):W.grownBy (W.setCell ⟨b,o,none⟩ v) (some b):=
 ⟨rfl,rfl,rfl,(KeepsWalks.setCell W _ v).size,fun k _ hk=>Below.heap_setCell _ _ _ k (fun e=>hk (by rw[e]))⟩
def bJ.other{W:World}{B B' o:Nat}{t:TypeId}{cs:Array Value}(h:bJ W B t cs)(hne:B≠B')(u:Value):bJ (W.setCell ⟨B',o,none⟩ u) B t cs:=h.kept (nd W B' o u) (fun e=>hne (by cases e;rfl))
def bJ.set{W:World}{B:Nat}{t:TypeId}{cs:Array Value}(h:bJ W B t cs)(o:Nat)(v:Value):bJ (W.setCell ⟨B,o,none⟩ v) B t (cs.setIfInBounds o v):=by
 obtain⟨hlt,hk⟩:=Ef.1 h;show (W.heap.modify B _)[B]? = _;rw[D9 (by rw[Array.size_modify];exact hlt),Array.getElem_modify_self,hk];rfl
def uZ{x y:ByteArray}(h:(x.toList== y.toList)=true):x=y:=by
 have:=E0.1 h
 rw[ByteArray.toList_eq,ByteArray.toList_eq]at this;exact ByteArray.ext (Fi this)
def u4{x y:ByteArray}(h:(x.toList== y.toList)=false):x≠y:=by
 rintro rfl;simp at h
def ef{β:Type}(B:Nat)(t:TypeId)(f:β->Array Value):Own (fun s W=>bJ W B t (f s)):=fun s X Y row hs hg hrow=>
 hs.kept hg (fun e'=>by obtain⟨o,ho,hc⟩:=hrow B e'.symm;rw[show X.heap[B]? = _ from hs]at ho;cases ho;cases hc)
set_option maxRecDepth 100000 in
set_option maxHeartbeats 4000000 in
def xx(F:Fence)(n:Nat)(h3:F.fn 138)(h5:F.fn 156)(h7:F.fn 173)(hro:F.round=none)(hn:3<=n)(a:Option Addr)(len cap:Nat)(x:ByteArray)(zs:List b8)(hreach:zs.length<=1000000000)(w:World)(hI:iU w.heap.size w (.slice a len cap) zs):
  CallsIn F n Tryz.prog 138 #[.slice a len cap,.string x] w fun e W'=>e= .returned (o3 zs x (.int .i64 0) (.slice none 0 0))/\Below w.heap.size w W':=by
 have h1:1<=n:=by omega
 refine callsIn_of_wp_marks Tryz.func138 rfl h3 ?_ hro;simp only[Tryz.ntmps138,Ff,Ec,Es,Nat.reduceAdd,Nat.reduceSub,FM,FN,FV,FQ,En,Ej]
 gi_wp2_with (gi_at_call 156;refine (Bm F (n-1) h5 hro _ _ _ _).mono ?_;rintro e w' ⟨rfl,rfl⟩)
 have b0:=(((bJ.new w 9 #[.string x]).alloc (.cells #[.int .i64 0,.slice none 0 0] 35)).alloc (.cells #[.bool false] 4)).alloc (.cells #[.slice a len cap] 23);have b1:=((bJ.new (w.alloc (.cells #[.string x] 9)) 35 #[.int .i64 0,.slice none 0 0]).alloc (.cells #[.bool false] 4)).alloc (.cells #[.slice a len cap] 23);have b2:=(bJ.new ((w.alloc (.cells #[.string x] 9)).alloc (.cells #[.int .i64 0,.slice none 0 0] 35)) 4 #[.bool false]).alloc (.cells #[.slice a len cap] 23);have b3:=bJ.new (((w.alloc (.cells #[.string x] 9)).alloc (.cells #[.int .i64 0,.slice none 0 0] 35)).alloc (.cells #[.bool false] 4)) 23 #[.slice a len cap];simp only[World.size_alloc]at b1 b2 b3;have hB0:Below w.heap.size w ((((w.alloc (.cells #[.string x] 9)).alloc (.cells #[.int .i64 0,.slice none 0 0] 35)).alloc (.cells #[.bool false] 4)).alloc (.cells #[.slice a len cap] 23)):=
  ((((Below.refl _ w).alloc (DT _) _).alloc (by simp) _).alloc (by simp;omega) _).alloc (by simp;omega) _
 have hsz:((((w.alloc (.cells #[.string x] 9)).alloc (.cells #[.int .i64 0,.slice none 0 0] 35)).alloc (.cells #[.bool false] 4)).alloc (.cells #[.slice a len cap] 23)).heap.size=w.heap.size+4:=by simp
 obtain⟨W0,hW0⟩:∃W0,((((w.alloc (.cells #[.string x] 9)).alloc (.cells #[.int .i64 0,.slice none 0 0] 35)).alloc (.cells #[.bool false] 4)).alloc (.cells #[.slice a len cap] 23))=W0:=⟨_,rfl⟩;rw[hW0]at b0 b1 b2 b3 hB0 hsz |-;clear hW0;refine wpIn_rangeFunc_ownH hro h1 (gf:=173) (lb:=#[.pointer (some ⟨w.heap.size+1+1+1,0,none⟩)]) rfl h7 (enters_of Tryz.func173 (by kernel_rfl) rfl)
  (vS F (n-1) h7 hro (by omega) (w.heap.size+1+1+1) _ zs hreach W0 (by omega) (b3.cell 0) ((hI.below hB0).mono (by omega))) belowK_t (belowK_b (DT _)) (Below.refl _ _) (fun _=>rfl)
  (fun pre W=>(∀p∈pre,p.2.1≠x)/\(bJ W w.heap.size 9 #[.string x]/\bJ W (w.heap.size+1) 35 #[.int .i64 0,.slice none 0 0]/\bJ W (w.heap.size+1+1) 4 #[.bool false]/\bJ W (w.heap.size+1+1+1) 23 #[.slice a len cap])/\Below w.heap.size w W)
  (fun c pre W=>(c= .ret/\∃ini last,pre=ini++[last]/\(∀p∈ini,p.2.1≠x)/\last.2.1=x/\bJ W (w.heap.size+1) 35 #[last.2.k,last.2.f]/\bJ W (w.heap.size+1+1) 4 #[.bool true])/\Below w.heap.size w W)
  ?hI ?hIx ⟨fun _ h=>(by cases h),⟨b0,b1,b2,b3⟩,hB0⟩
  (fun y a' W=>∃Bx,bJ W Bx 55 #[.string y.2.1,y.2.k,y.2.f]/\a'= { tmps:=#[.slice a len cap,.string x,undef,.pointer (some ⟨w.heap.size,0,none⟩),.pointer (some ⟨w.heap.size+1,0,none⟩),.pointer (some ⟨w.heap.size+1+1,0,none⟩),undef,.pointer (some ⟨Bx,0,none⟩),.slice a len cap,.func (.func 173) #[] #[.pointer (some ⟨w.heap.size+1+1+1,0,none⟩)],.int .i64 (y.1:Int),uq y.2,undef,undef,undef,undef,undef,undef,undef],defers:=[] })
  (fun y a' _ X Y row hs hg hr=>by obtain⟨Bx,h2,h3⟩:=hs;exact⟨Bx,ef Bx 55 (fun(_:Unit)=>#[Value.string y.2.1,y.2.k,y.2.f]) () X Y row h2 hg (fun r e=>(hr r e).2),h3⟩)
  ?assign ?body ?done ?stop
 case hI=>exact OwnFrom.and (ownFrom_pure _ _) (OwnFrom.and (OwnFrom.and (Own.from (ef _ _ _) _) (OwnFrom.and (Own.from (ef _ _ _) _) (OwnFrom.and (Own.from (ef _ _ _) _) (Own.from (ef _ _ _) _)))) (ownFrom_below (DT _) (by omega)))
 case hIx=>
  intro c;refine OwnFrom.and (Own.from (fun s A B row hs hg hr=>?_) _) (ownFrom_below (DT _) (by omega));obtain⟨hc,ini,last,e1,e2,e3,e4,e5⟩:=hs;exact⟨hc,ini,last,e1,e2,e3,ef _ _ (fun(_:Unit)=>#[last.2.k,last.2.f]) () A B row e4 hg hr,ef _ _ (fun(_:Unit)=>#[Value.bool true]) () A B row e5 hg hr⟩
 case assign=>
  rintro l pre y W K ⟨hp,⟨r0,r1,r2,r3⟩,hB⟩ hK;obtain⟨yi,y1,y2,y3,y4,y5⟩:=y;simp only[uq,b8.k,b8.f]at hK |-
  gi_wp2
  exact hK _ _ ((KeepsOthers.alloc _ _).from _) ((Below.refl _ W).alloc (by have:=r3.lt;omega) _) ⟨hp,⟨r0.alloc _,r1.alloc _,r2.alloc _,r3.alloc _⟩,hB.alloc hB.size _⟩ ⟨W.heap.size,bJ.new W _ _,rfl⟩
 case body=>
  rintro l pre y a' W hl ⟨r,hr⟩ ⟨hp,⟨r0,r1,r2,r3⟩,hB⟩ ⟨Bx,rx,rfl⟩ hlt;obtain⟨yi,y1,y2,y3,y4,y5⟩:=y;simp only[uq,b8.k,b8.f]at rx |-;have c0:=r0.cell 0;have tL:=rx.cell 0;have cx1:=rx.cell 1;have cx2:=rx.cell 2;have f10:=r1.frozen 0;have f11:=r1.frozen 1;have f20:=r2.frozen 0;have c10:=r1.cell 0;have c11:=r1.cell 1;have c20:=r2.cell 0;simp at c0 tL cx1 cx2 c10 c11 c20
  gi_wp2
  ·have hx:y1=x:=uZ (by assumption);have r1':=((r1.set 0 (.int .i64 y2)).set 1 (.slice y3 y4 y5)).other (B':=w.heap.size+1+1) (o:=0) (by omega) (.bool true);have r2':=((r2.other (B':=w.heap.size+1) (o:=0) (by omega) (.int .i64 y2)).other (B':=w.heap.size+1) (o:=1) (by omega) (.slice y3 y4 y5)).set 0 (.bool true);exact⟨(((KeepsOthers.setCell _ _ _).trans (KeepsOthers.setCell _ _ _)).trans (KeepsOthers.setCell _ _ _)).from _,⟨rfl,pre,(yi,y1,y2,y3,y4,y5),rfl,hp,hx,r1',r2'⟩,
    ((hB.setCell (p:=⟨w.heap.size+1,0,none⟩) (by simp) _).setCell (p:=⟨w.heap.size+1,1,none⟩) (by simp) _).setCell (p:=⟨w.heap.size+1+1,0,none⟩) (by simp;omega) _⟩
  ·have hx:y1≠x:=u4 (by assumption);exact⟨KeepsFrom.refl _ _,Below.refl _ _,fun p hp'=>(Eg.1 hp').elim (hp p) (fun e=>by simp at e;subst e;exact hx),⟨r0,r1,r2,r3⟩,hB⟩
 case done=>
  rintro D ys W hD rfl ⟨hne,⟨r0,r1,r2,r3⟩,hB⟩ hK;have f10:=r1.frozen 0;have f11:=r1.frozen 1;have f20:=r2.frozen 0;have c10:=r1.cell 0;have c11:=r1.cell 1;have c20:=r2.cell 0;simp at c10 c11 c20
  gi_wp2
  have r1':=((r1.set 0 (.int .i64 0)).set 1 (.slice none 0 0)).other (B':=w.heap.size+1+1) (o:=0) (by omega) (.bool false);have r2':=((r2.other (B':=w.heap.size+1) (o:=0) (by omega) (.int .i64 0)).other (B':=w.heap.size+1) (o:=1) (by omega) (.slice none 0 0)).set 0 (.bool false);have hB':=((hB.setCell (p:=⟨w.heap.size+1,0,none⟩) (by simp) (.int .i64 0)).setCell (p:=⟨w.heap.size+1,1,none⟩) (by simp) (.slice none 0 0)).setCell (p:=⟨w.heap.size+1+1,0,none⟩) (by simp;omega) (.bool false);have hK':=(((KeepsOthers.setCell W ⟨w.heap.size+1,0,none⟩ (.int .i64 0)).trans (KeepsOthers.setCell _ ⟨w.heap.size+1,1,none⟩ (.slice none 0 0))).trans (KeepsOthers.setCell _ ⟨w.heap.size+1+1,0,none⟩ (.bool false))).same D _ hK rfl;refine⟨by simp,.inl ⟨_,_,rfl,run_takeDeferred hK',?_⟩⟩;have q10:=(r1'.put (.deferred none) hK' rfl).cell 0;have q11:=(r1'.put (.deferred none) hK' rfl).cell 1;have q20:=(r2'.put (.deferred none) hK' rfl).cell 0;simp at q10 q11 q20;refine⟨.tuple #[.agg #[.int .i64 0,.slice none 0 0],.bool false],?_,?_,hB'.trans (belowK_b (w:=w) (DT _) _ D _ _ (by omega) hK' rfl rfl)⟩
  rotate_left
  ·unfold o3;rw[qC hne]
  ·simp[results,Tryz.f138,go_sem,q10,q11,q20]
 case stop=>
  rintro D c pre W hD ⟨k,hk,rfl⟩ ⟨⟨rfl,ini,last,e1,e2,e3,r1,r2⟩,hB⟩ hK
  gi_wp2
  refine⟨by simp,.inl ⟨_,_,rfl,run_takeDeferred hK,?_⟩⟩;have q10:=(r1.put (.deferred none) hK rfl).cell 0;have q11:=(r1.put (.deferred none) hK rfl).cell 1;have q20:=(r2.put (.deferred none) hK rfl).cell 0;simp at q10 q11 q20;refine⟨.tuple #[.agg #[last.2.k,last.2.f],.bool true],?_,?_,hB.trans (belowK_b (w:=w) (DT _) W D _ _ (by omega) hK rfl rfl)⟩
  rotate_left
  ·unfold o3;rw[qD hk e1 e2 e3]
  ·simp[results,Tryz.f138,go_sem,q10,q11,q20]
end Go.Proofs.YtgpmcoffkopjeaaGreatDoor
