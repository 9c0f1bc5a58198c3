/- What the functions of the seat compute, part 1: the texts of the claim, one behind the other. Conditions: bounds, as each theorem names them. -/
import Derived.Shelf.LaysM
import Derived.Shelf.Strconv.Itoa3
import Derived.Shelf.Strings.Search3
import Derived.Shelf.Strings.Fields
import Derived.Test.YteemeakjlfnapaaGreatDoorProg
import Derived.Test.YteemeakjlfnapaaGreatDoorLc
import Derived.Shelf.Strconv.AtoiAll
import Derived.Shelf.LaysC
import Derived.Shelf.Small.Strs
import Derived.Lib.Builder
import Derived.Lib.UnsafeStr
import Derived.Shelf.RegionOpenPlain
import Derived.Laws.Externs
import Derived.Laws.IdiomCopy
import Derived.Laws.BitsLemmas
set_option linter.defProp false
set_option linter.unusedSimpArgs false
set_option linter.unusedVariables false
namespace Go.Proofs
open Go.Shelf
def Dl:Go.Shelf.Ren:=⟨fun|171=>153|243=>207|246=>240|283=>262|284=>263|285=>264|286=>265|129=>223|317=>278|318=>279|319=>280|320=>281|337=>285|338=>286|n=>n,fun|3=>3|9=>9|2=>2|4=>4|171=>250|0=>0|53=>214|37=>102|5=>5|173=>252|212=>278|51=>212|20=>20|213=>279|46=>175|232=>291|233=>292|n=>n,fun|17=>3|18=>6|19=>7|n=>n⟩
def Do:Go.Proofs.LaysM.n171 Tryz.prog Dl:={
 mixed:=by kernel_rfl
 f129:=Tryz.func223.trans (Dz some (by kernel_rfl))
 f171:=Tryz.func153.trans (Dz some (by kernel_rfl))
 f243:=Tryz.func207.trans (Dz some (by kernel_rfl))
 f246:=Tryz.func240.trans (Dz some (by kernel_rfl))
 f283:=Tryz.func262.trans (Dz some (by kernel_rfl))
 f284:=Tryz.func263.trans (Dz some (by kernel_rfl))
 f285:=Tryz.func264.trans (Dz some (by kernel_rfl))
 f286:=Tryz.func265.trans (Dz some (by kernel_rfl))
 f317:=Tryz.func278.trans (Dz some (by kernel_rfl))
 f318:=Tryz.func279.trans (Dz some (by kernel_rfl))
 f319:=Tryz.func280.trans (Dz some (by kernel_rfl))
 f320:=Tryz.func281.trans (Dz some (by kernel_rfl))
 f337:=Tryz.func285.trans (Dz some (by kernel_rfl))
 f338:=Tryz.func286.trans (Dz some (by kernel_rfl))
 t0:=Tryz.underlying0
 a0:=Tryz.isAgg0
 z0:=Tryz.sizeOf0
 v0:=Tryz.zeroValue0
 t2:=Tryz.underlying2
 a2:=Tryz.isAgg2
 z2:=Tryz.sizeOf2
 v2:=Tryz.zeroValue2
 t3:=Tryz.underlying3
 a3:=Tryz.isAgg3
 z3:=Tryz.sizeOf3
 v3:=Tryz.zeroValue3
 t4:=Tryz.underlying4
 a4:=Tryz.isAgg4
 z4:=Tryz.sizeOf4
 v4:=Tryz.zeroValue4
 t5:=Tryz.underlying5
 a5:=Tryz.isAgg5
 z5:=Tryz.sizeOf5
 v5:=Tryz.zeroValue5
 t9:=Tryz.underlying9
 a9:=Tryz.isAgg9
 z9:=Tryz.sizeOf9
 v9:=Tryz.zeroValue9
 t20:=Tryz.underlying20
 a20:=Tryz.isAgg20
 z20:=Tryz.sizeOf20
 v20:=Tryz.zeroValue20
 t37:=Tryz.underlying102
 a37:=Tryz.isAgg102
 z37:=Tryz.sizeOf102
 v37:=Tryz.zeroValue102
 t46:=Tryz.underlying175
 a46:=Tryz.isAgg175
 z46:=Tryz.sizeOf175
 v46:=Tryz.zeroValue175
 t51:=Tryz.underlying212
 a51:=Tryz.isAgg212
 z51:=Tryz.sizeOf212
 v51:=Tryz.zeroValue212
 t53:=Tryz.underlying214
 a53:=Tryz.isAgg214
 z53:=Tryz.sizeOf214
 v53:=Tryz.zeroValue214
 t171:=Tryz.underlying250
 a171:=Tryz.isAgg250
 z171:=Tryz.sizeOf250
 v171:=Tryz.zeroValue250
 t173:=Tryz.underlying252
 a173:=Tryz.isAgg252
 z173:=Tryz.sizeOf252
 v173:=Tryz.zeroValue252
 t212:=Tryz.underlying278
 a212:=Tryz.isAgg278
 z212:=Tryz.sizeOf278
 v212:=Tryz.zeroValue278
 t213:=Tryz.underlying279
 a213:=Tryz.isAgg279
 z213:=Tryz.sizeOf279
 t232:=Tryz.underlying291
 a232:=Tryz.isAgg291
 z232:=Tryz.sizeOf291
 v232:=Tryz.zeroValue291
 t233:=Tryz.underlying292
 a233:=Tryz.isAgg292
 z233:=Tryz.sizeOf292
 v233:=Tryz.zeroValue292
 g17:=by kernel_rfl
 g18:=by kernel_rfl
 g19:=by kernel_rfl
 i0:=by kernel_rfl
 i2:=by kernel_rfl
 i3:=by kernel_rfl
 i4:=by kernel_rfl
 i5:=by kernel_rfl
 i9:=by kernel_rfl
 i20:=by kernel_rfl
 i37:=by kernel_rfl
 i46:=by kernel_rfl
 i51:=by kernel_rfl
 i53:=by kernel_rfl
 i171:=by kernel_rfl
 i173:=by kernel_rfl
 i212:=by kernel_rfl
 i232:=by kernel_rfl
 i233:=by kernel_rfl
 m17:=by kernel_rfl
 m18:=by kernel_rfl
 m19:=by kernel_rfl }
def Dm:Go.Shelf.Ren:=⟨fun|144=>147|143=>203|219=>239|217=>241|225=>259|224=>260|267=>261|266=>266|314=>277|n=>n,fun|9=>9|4=>4|3=>3|5=>5|46=>175|146=>275|51=>212|n=>n,fun|1=>2|n=>n⟩
def Dp:Go.Proofs.Lays.n144 Tryz.prog Dm:={
 mixed:=by kernel_rfl
 f143:=Tryz.func203.trans (Dz some (by kernel_rfl))
 f144:=Tryz.func147.trans (Dz some (by kernel_rfl))
 f217:=Tryz.func241.trans (Dz some (by kernel_rfl))
 f219:=Tryz.func239.trans (Dz some (by kernel_rfl))
 f224:=Tryz.func260.trans (Dz some (by kernel_rfl))
 f225:=Tryz.func259.trans (Dz some (by kernel_rfl))
 f266:=Tryz.func266.trans (Dz some (by kernel_rfl))
 f267:=Tryz.func261.trans (Dz some (by kernel_rfl))
 f314:=Tryz.func277.trans (Dz some (by kernel_rfl))
 t3:=Tryz.underlying3
 a3:=Tryz.isAgg3
 z3:=Tryz.sizeOf3
 v3:=Tryz.zeroValue3
 t4:=Tryz.underlying4
 a4:=Tryz.isAgg4
 z4:=Tryz.sizeOf4
 v4:=Tryz.zeroValue4
 t5:=Tryz.underlying5
 a5:=Tryz.isAgg5
 z5:=Tryz.sizeOf5
 v5:=Tryz.zeroValue5
 t9:=Tryz.underlying9
 a9:=Tryz.isAgg9
 z9:=Tryz.sizeOf9
 v9:=Tryz.zeroValue9
 t46:=Tryz.underlying175
 a46:=Tryz.isAgg175
 z46:=Tryz.sizeOf175
 v46:=Tryz.zeroValue175
 t51:=Tryz.underlying212
 a51:=Tryz.isAgg212
 z51:=Tryz.sizeOf212
 v51:=Tryz.zeroValue212
 t146:=Tryz.underlying275
 a146:=Tryz.isAgg275
 z146:=Tryz.sizeOf275
 v146:=Tryz.zeroValue275
 g1:=by kernel_rfl }
end Go.Proofs
namespace Go.Proofs.YteemeakjlfnapaaGreatDoor
open Go Go.Av Go.Av.Ap
abbrev CC:=FuncId->List AV->M AV
abbrev RR:=List AV->M AV
def lb{α β:Type}{m:M α}{f:α->M β}{fs:Nat->α->M β}(hf:a6 f fs):aE (af m f) fun n=>af m (fs n):=aE.bnd (aE.const _) hf
abbrev vN(l:List Nat):List (Nat×Option Nat):=l.map fun x=>(x,none)
abbrev tF:TI:=TI.mk false 1 8 .func [] [.nilf] false
noncomputable def tab:List (Nat×TI):=[
(0,(TI.mk false 1 0 .other [] [.any] false)),
(1,tF),
(2,(TI.mk false 1 8 (.int .i64) [] [.int .i64 0] false)),
(3,(TI.mk false 1 8 (.int .i64) [] [.int .i64 0] false)),
(4,(TI.mk false 1 1 .bool [] [.bool false] false)),
(5,(TI.mk false 1 1 (.int .u8) [] [.int .u8 0] false)),
(6,(TI.mk false 1 1 (.int .u8) [] [.int .u8 0] false)),
(7,(TI.mk true 4 24 .struct [(0,((2,true))),(1,((3,true))),(2,((4,true))),(3,((6,true)))] [.int .i64 0,.int .i64 0,.bool false,.int .u8 0] true)),
(8,(TI.mk true 4 24 .struct [(0,((2,true))),(1,((3,true))),(2,((4,true))),(3,((6,true)))] [.int .i64 0,.int .i64 0,.bool false,.int .u8 0] true)),
(9,(TI.mk false 1 16 .str [] [.str []] false)),
(10,(TI.mk false 1 16 .str [] [.str []] false)),
(11,(TI.mk false 1 16 .str [] [.str []] false)),
(12,(TI.mk false 1 8 (.int .u64) [] [.int .u64 0] false)),
(13,(TI.mk true 2 24 .struct [(0,((9,true))),(1,((12,true)))] [.str [],.int .u64 0] false)),
(14,(TI.mk true 2 24 .struct [(0,((9,true))),(1,((12,true)))] [.str [],.int .u64 0] false)),
(15,(TI.mk false 1 8 .ptr [] [.nilp] false)),
(16,(TI.mk false 1 8 .ptr [] [.nilp] false)),
(17,(TI.mk false 1 8 .ptr [] [.nilp] false)),
(18,(TI.mk true 1 8 .struct [(0,((17,true)))] [.nilp] false)),
(19,(TI.mk true 1 8 .struct [(0,((17,true)))] [.nilp] false)),
(20,(TI.mk false 1 16 .iface [] [.nili] false)),
(21,(TI.mk false 1 4 (.int .i32) [] [.int .i32 0] false)),
(22,(TI.mk false 1 24 (.slice 56) [] [.sl []] false)),
(23,(TI.mk true 2 40 .struct [(0,((9,true))),(1,((22,true)))] [.str [],.sl []] true)),
(24,(TI.mk true 2 40 .struct [(0,((9,true))),(1,((22,true)))] [.str [],.sl []] true)),
(25,(TI.mk false 1 24 (.slice 76) [] [.sl []] false)),
(26,(TI.mk true 2 32 .struct [(0,((3,true))),(1,((25,true)))] [.int .i64 0,.sl []] true)),
(27,(TI.mk true 2 32 .struct [(0,((3,true))),(1,((25,true)))] [.int .i64 0,.sl []] true)),
(28,(TI.mk true 3 24 .struct [(0,((3,true))),(1,((3,true))),(2,((3,true)))] [.int .i64 0,.int .i64 0,.int .i64 0] true)),
(29,(TI.mk true 3 24 .struct [(0,((3,true))),(1,((3,true))),(2,((3,true)))] [.int .i64 0,.int .i64 0,.int .i64 0] true)),
(30,tF),
(31,tF),
(32,tF),
(33,(TI.mk false 1 0 .other [] [.any] false)),
(34,tF),
(35,(TI.mk false 1 24 (.slice 9) [] [.sl []] false)),
(36,(TI.mk false 1 24 (.slice 47) [] [.sl []] false)),
(37,(TI.mk false 1 24 (.slice 73) [] [.sl []] false)),
(38,(TI.mk true 3 72 .struct [(0,((25,true))),(1,((36,true))),(2,((36,true)))] [.sl [],.sl [],.sl []] true)),
(39,(TI.mk true 3 72 .struct [(0,((25,true))),(1,((36,true))),(2,((36,true)))] [.sl [],.sl [],.sl []] true)),
(40,(TI.mk true 9 192 .struct [(0,((9,true))),(1,((35,true))),(2,((25,true))),(3,((36,true))),(4,((37,true))),(5,((4,true))),(6,((39,true)))] [.str [],.sl [],.sl [],.sl [],.sl [],.bool false,.sl [],.sl [],.sl []] true)),
(41,(TI.mk true 9 192 .struct [(0,((9,true))),(1,((35,true))),(2,((25,true))),(3,((36,true))),(4,((37,true))),(5,((4,true))),(6,((39,true)))] [.str [],.sl [],.sl [],.sl [],.sl [],.bool false,.sl [],.sl [],.sl []] true)),
(42,(TI.mk false 1 0 .other [] [.any] false)),
(43,tF),
(44,tF),
(45,tF),
(46,(TI.mk true 6 96 .struct [(0,((3,true))),(1,((3,true))),(2,((9,true))),(3,((9,true))),(4,((35,true))),(5,((36,true)))] [.int .i64 0,.int .i64 0,.str [],.str [],.sl [],.sl []] true)),
(47,(TI.mk true 6 96 .struct [(0,((3,true))),(1,((3,true))),(2,((9,true))),(3,((9,true))),(4,((35,true))),(5,((36,true)))] [.int .i64 0,.int .i64 0,.str [],.str [],.sl [],.sl []] true)),
(48,tF),
(49,tF),
(50,tF),
(51,tF),
(52,tF),
(53,tF),
(54,(TI.mk false 1 24 (.slice 27) [] [.sl []] false)),
(55,(TI.mk true 5 80 .struct [(0,((9,true))),(1,((54,true))),(2,((27,true))),(4,((3,true)))] [.str [],.sl [],.int .i64 0,.sl [],.int .i64 0] true)),
(56,(TI.mk true 5 80 .struct [(0,((9,true))),(1,((54,true))),(2,((27,true))),(4,((3,true)))] [.str [],.sl [],.int .i64 0,.sl [],.int .i64 0] true)),
(57,tF),
(58,tF),
(59,(TI.mk false 1 8 (.int .i64) [] [.int .i64 0] false)),
(60,(TI.mk false 1 0 .other [] [.any] false)),
(61,tF),
(62,(TI.mk false 1 0 .other [] [.any] false)),
(63,tF),
(64,(TI.mk false 1 0 .other [] [.any] false)),
(65,tF),
(66,tF),
(67,tF),
(68,tF),
(69,tF),
(70,tF),
(71,tF),
(72,(TI.mk true 12 184 .struct [(0,((9,true))),(1,((4,true))),(2,((25,true))),(3,((27,true))),(5,((3,true))),(6,((47,true)))] [.str [],.bool false,.sl [],.int .i64 0,.sl [],.int .i64 0,.int .i64 0,.int .i64 0,.str [],.str [],.sl [],.sl []] true)),
(73,(TI.mk true 12 184 .struct [(0,((9,true))),(1,((4,true))),(2,((25,true))),(3,((27,true))),(5,((3,true))),(6,((47,true)))] [.str [],.bool false,.sl [],.int .i64 0,.sl [],.int .i64 0,.int .i64 0,.int .i64 0,.str [],.str [],.sl [],.sl []] true)),
(74,tF),
(75,(TI.mk true 3 48 .struct [(0,((9,true))),(1,((27,true)))] [.str [],.int .i64 0,.sl []] true)),
(76,(TI.mk true 3 48 .struct [(0,((9,true))),(1,((27,true)))] [.str [],.int .i64 0,.sl []] true)),
(77,tF),
(78,(TI.mk false 1 24 (.slice 24) [] [.sl []] false)),
(79,tF),
(80,tF),
(81,tF),
(82,(TI.mk false 1 0 .other [] [.any] false)),
(83,tF),
(84,tF),
(85,tF),
(86,tF),
(87,tF),
(88,tF),
(89,tF),
(90,tF),
(91,tF),
(92,tF),
(93,tF),
(94,tF),
(95,tF),
(96,tF),
(97,tF),
(98,tF),
(99,tF),
(100,tF),
(101,(TI.mk false 1 8 .ptr [] [.nilp] false)),
(102,(TI.mk false 1 24 (.slice 5) [] [.sl []] false)),
(103,(TI.mk true 2 32 .struct [(0,((101,true))),(1,((102,true)))] [.nilp,.sl []] true)),
(104,(TI.mk true 2 32 .struct [(0,((101,true))),(1,((102,true)))] [.nilp,.sl []] true)),
(105,(TI.mk false 1 16 .iface [] [.nili] false)),
(106,(TI.mk false 1 16 .iface [] [.nili] false)),
(107,(TI.mk false 1 0 .other [] [.any] false)),
(108,tF),
(109,tF),
(110,tF),
(111,tF),
(112,tF),
(113,tF),
(114,(TI.mk false 1 8 .ptr [] [.nilp] false)),
(115,tF),
(116,tF),
(117,tF),
(118,(TI.mk false 1 8 .ptr [] [.nilp] false)),
(119,tF),
(120,tF),
(121,tF),
(122,tF),
(123,tF),
(124,tF),
(125,tF),
(126,tF),
(127,tF),
(128,tF),
(129,tF),
(130,(TI.mk false 1 8 (.map 9 4) [] [.nilm] false)),
(131,tF),
(132,tF),
(133,tF),
(134,tF),
(135,(TI.mk false 1 8 .ptr [] [.nilp] false)),
(136,(TI.mk false 1 0 .other [] [.any] false)),
(137,tF),
(138,(TI.mk false 1 0 .other [] [.any] false)),
(139,(TI.mk false 1 8 (.map 9 24) [] [.nilm] false)),
(140,(TI.mk true 11 208 .struct [(0,((41,true))),(9,((139,true))),(10,((3,true)))] [.str [],.sl [],.sl [],.sl [],.sl [],.bool false,.sl [],.sl [],.sl [],.nilm,.int .i64 0] true)),
(141,(TI.mk true 11 208 .struct [(0,((41,true))),(9,((139,true))),(10,((3,true)))] [.str [],.sl [],.sl [],.sl [],.sl [],.bool false,.sl [],.sl [],.sl [],.nilm,.int .i64 0] true)),
(142,(TI.mk false 1 0 .other [] [.any] false)),
(143,tF),
(144,tF),
(145,tF),
(146,tF),
(147,tF),
(148,(TI.mk true 3 40 .struct [(0,((104,true))),(2,((4,true)))] [.nilp,.sl [],.bool false] true)),
(149,(TI.mk true 3 40 .struct [(0,((104,true))),(2,((4,true)))] [.nilp,.sl [],.bool false] true)),
(150,tF),
(151,tF),
(152,tF),
(153,tF),
(154,tF),
(155,tF),
(156,tF),
(157,tF),
(158,tF),
(159,tF),
(160,tF),
(161,(TI.mk false 1 8 .ptr [] [.nilp] false)),
(162,(TI.mk true 2 24 .struct [(0,((9,true))),(1,((4,true)))] [.str [],.bool false] true)),
(163,(TI.mk true 2 24 .struct [(0,((9,true))),(1,((4,true)))] [.str [],.bool false] true)),
(164,tF),
(165,tF),
(166,(TI.mk true 2 24 .struct [(0,((9,true))),(1,((4,true)))] [.str [],.bool false] true)),
(167,(TI.mk true 2 24 .struct [(0,((9,true))),(1,((4,true)))] [.str [],.bool false] true)),
(168,tF),
(169,tF),
(170,tF),
(171,tF),
(172,tF),
(173,tF),
(174,tF),
(175,(TI.mk false 1 8 (.int .u64) [] [.int .u64 0] false)),
(176,tF),
(177,tF),
(178,tF),
(179,tF),
(180,(TI.mk false 1 0 .other [] [.any] false)),
(181,tF),
(182,(TI.mk false 1 0 .other [] [.any] false)),
(183,tF),
(184,tF),
(185,tF),
(186,tF),
(187,(TI.mk false 1 8 .ptr [] [.nilp] false)),
(188,tF),
(189,tF),
(190,tF),
(191,tF),
(192,tF),
(193,tF),
(194,tF),
(195,tF),
(196,(TI.mk false 1 24 (.slice 3) [] [.sl []] false)),
(197,tF),
(198,(TI.mk false 1 8 .other [] [.nilp] false)),
(199,tF),
(200,tF),
(201,(TI.mk false 1 0 .other [] [.any] false)),
(202,tF),
(203,tF),
(204,(TI.mk false 1 8 (.int .i64) [] [.int .i64 0] false)),
(205,(TI.mk false 1 0 .other [] [.any] false)),
(206,tF),
(207,tF),
(208,tF),
(209,(TI.mk false 1 0 .other [] [.any] false)),
(210,tF),
(211,tF),
(212,(TI.mk false 1 4 (.int .u32) [] [.int .u32 0] false)),
(213,tF),
(214,(TI.mk false 1 8 (.int .u64) [] [.int .u64 0] false)),
(215,(TI.mk false 1 0 .other [] [.any] false)),
(216,tF),
(217,tF),
(218,tF),
(219,tF),
(220,tF),
(221,tF),
(222,(TI.mk false 1 24 (.slice 225) [] [.sl []] false)),
(223,tF),
(224,(TI.mk true 3 32 .struct [(0,((9,true))),(1,((3,true))),(2,((3,true)))] [.str [],.int .i64 0,.int .i64 0] true)),
(225,(TI.mk true 3 32 .struct [(0,((9,true))),(1,((3,true))),(2,((3,true)))] [.str [],.int .i64 0,.int .i64 0] true)),
(226,tF),
(227,tF),
(228,(TI.mk true 256 256 (.array 256 5) [] [.int .u8 0,.int .u8 0,.int .u8 0,.int .u8 0,.int .u8 0,.int .u8 0,.int .u8 0,.int .u8 0,.int .u8 0,.int .u8 0,.int .u8 0,.int .u8 0,.int .u8 0,.int .u8 0,.int .u8 0,.int .u8 0,.int .u8 0,.int .u8 0,.int .u8 0,.int .u8 0,.int .u8 0,.int .u8 0,.int .u8 0,.int .u8 0,.int .u8 0,.int .u8 0,.int .u8 0,.int .u8 0,.int .u8 0,.int .u8 0,.int .u8 0,.int .u8 0,.int .u8 0,.int .u8 0,.int .u8 0,.int .u8 0,.int .u8 0,.int .u8 0,.int .u8 0,.int .u8 0,.int .u8 0,.int .u8 0,.int .u8 0,.int .u8 0,.int .u8 0,.int .u8 0,.int .u8 0,.int .u8 0,.int .u8 0,.int .u8 0,.int .u8 0,.int .u8 0,.int .u8 0,.int .u8 0,.int .u8 0,.int .u8 0,.int .u8 0,.int .u8 0,.int .u8 0,.int .u8 0,.int .u8 0,.int .u8 0,.int .u8 0,.int .u8 0,.int .u8 0,.int .u8 0,.int .u8 0,.int .u8 0,.int .u8 0,.int .u8 0,.int .u8 0,.int .u8 0,.int .u8 0,.int .u8 0,.int .u8 0,.int .u8 0,.int .u8 0,.int .u8 0,.int .u8 0,.int .u8 0,.int .u8 0,.int .u8 0,.int .u8 0,.int .u8 0,.int .u8 0,.int .u8 0,.int .u8 0,.int .u8 0,.int .u8 0,.int .u8 0,.int .u8 0,.int .u8 0,.int .u8 0,.int .u8 0,.int .u8 0,.int .u8 0,.int .u8 0,.int .u8 0,.int .u8 0,.int .u8 0,.int .u8 0,.int .u8 0,.int .u8 0,.int .u8 0,.int .u8 0,.int .u8 0,.int .u8 0,.int .u8 0,.int .u8 0,.int .u8 0,.int .u8 0,.int .u8 0,.int .u8 0,.int .u8 0,.int .u8 0,.int .u8 0,.int .u8 0,.int .u8 0,.int .u8 0,.int .u8 0,.int .u8 0,.int .u8 0,.int .u8 0,.int .u8 0,.int .u8 0,.int .u8 0,.int .u8 0,.int .u8 0,.int .u8 0,.int .u8 0,.int .u8 0,.int .u8 0,.int .u8 0,.int .u8 0,.int .u8 0,.int .u8 0,.int .u8 0,.int .u8 0,.int .u8 0,.int .u8 0,.int .u8 0,.int .u8 0,.int .u8 0,.int .u8 0,.int .u8 0,.int .u8 0,.int .u8 0,.int .u8 0,.int .u8 0,.int .u8 0,.int .u8 0,.int .u8 0,.int .u8 0,.int .u8 0,.int .u8 0,.int .u8 0,.int .u8 0,.int .u8 0,.int .u8 0,.int .u8 0,.int .u8 0,.int .u8 0,.int .u8 0,.int .u8 0,.int .u8 0,.int .u8 0,.int .u8 0,.int .u8 0,.int .u8 0,.int .u8 0,.int .u8 0,.int .u8 0,.int .u8 0,.int .u8 0,.int .u8 0,.int .u8 0,.int .u8 0,.int .u8 0,.int .u8 0,.int .u8 0,.int .u8 0,.int .u8 0,.int .u8 0,.int .u8 0,.int .u8 0,.int .u8 0,.int .u8 0,.int .u8 0,.int .u8 0,.int .u8 0,.int .u8 0,.int .u8 0,.int .u8 0,.int .u8 0,.int .u8 0,.int .u8 0,.int .u8 0,.int .u8 0,.int .u8 0,.int .u8 0,.int .u8 0,.int .u8 0,.int .u8 0,.int .u8 0,.int .u8 0,.int .u8 0,.int .u8 0,.int .u8 0,.int .u8 0,.int .u8 0,.int .u8 0,.int .u8 0,.int .u8 0,.int .u8 0,.int .u8 0,.int .u8 0,.int .u8 0,.int .u8 0,.int .u8 0,.int .u8 0,.int .u8 0,.int .u8 0,.int .u8 0,.int .u8 0,.int .u8 0,.int .u8 0,.int .u8 0,.int .u8 0,.int .u8 0,.int .u8 0,.int .u8 0,.int .u8 0,.int .u8 0,.int .u8 0,.int .u8 0,.int .u8 0,.int .u8 0,.int .u8 0,.int .u8 0,.int .u8 0,.int .u8 0,.int .u8 0,.int .u8 0,.int .u8 0,.int .u8 0,.int .u8 0,.int .u8 0,.int .u8 0,.int .u8 0,.int .u8 0,.int .u8 0,.int .u8 0,.int .u8 0,.int .u8 0,.int .u8 0,.int .u8 0] false)),
(229,tF),
(230,tF),
(231,tF),
(232,tF),
(233,tF),
(234,(TI.mk false 1 8 (.int .u64) [] [.int .u64 0] false)),
(235,tF),
(236,tF),
(237,tF),
(238,(TI.mk false 1 8 .ptr [] [.nilp] false)),
(239,tF),
(240,tF),
(241,tF),
(242,tF),
(243,tF),
(244,(TI.mk false 1 24 (.slice 246) [] [.sl []] false)),
(245,(TI.mk true 2 16 .struct [(0,((3,true))),(1,((3,true)))] [.int .i64 0,.int .i64 0] true)),
(246,(TI.mk true 2 16 .struct [(0,((3,true))),(1,((3,true)))] [.int .i64 0,.int .i64 0] true)),
(247,tF),
(248,(TI.mk false 1 8 .ptr [] [.nilp] false)),
(249,tF),
(250,(TI.mk true 24 24 (.array 24 5) [] [.int .u8 0,.int .u8 0,.int .u8 0,.int .u8 0,.int .u8 0,.int .u8 0,.int .u8 0,.int .u8 0,.int .u8 0,.int .u8 0,.int .u8 0,.int .u8 0,.int .u8 0,.int .u8 0,.int .u8 0,.int .u8 0,.int .u8 0,.int .u8 0,.int .u8 0,.int .u8 0,.int .u8 0,.int .u8 0,.int .u8 0,.int .u8 0] false)),
(251,tF),
(252,(TI.mk false 1 0 .other [] [.any] false)),
(253,tF),
(254,(TI.mk false 1 8 (.int .i64) [] [.int .i64 0] false)),
(255,(TI.mk false 1 0 .other [] [.any] false)),
(256,tF),
(257,(TI.mk false 1 8 .ptr [] [.nilp] false)),
(258,tF),
(259,tF),
(260,(TI.mk false 1 8 .ptr [] [.nilp] false)),
(261,(TI.mk false 1 0 .other [] [.any] false)),
(262,tF),
(263,tF),
(264,(TI.mk false 1 24 (.slice 270) [] [.sl []] false)),
(265,(TI.mk false 1 24 (.slice 273) [] [.sl []] false)),
(266,(TI.mk true 3 56 .struct [(0,((264,true))),(1,((265,true))),(2,((3,true)))] [.sl [],.sl [],.int .i64 0] true)),
(267,(TI.mk true 3 56 .struct [(0,((264,true))),(1,((265,true))),(2,((3,true)))] [.sl [],.sl [],.int .i64 0] true)),
(268,(TI.mk false 1 2 (.int .u16) [] [.int .u16 0] false)),
(269,(TI.mk true 3 6 .struct [(0,((268,true))),(1,((268,true))),(2,((268,true)))] [.int .u16 0,.int .u16 0,.int .u16 0] true)),
(270,(TI.mk true 3 6 .struct [(0,((268,true))),(1,((268,true))),(2,((268,true)))] [.int .u16 0,.int .u16 0,.int .u16 0] true)),
(271,tF),
(272,(TI.mk true 3 12 .struct [(0,((212,true))),(1,((212,true))),(2,((212,true)))] [.int .u32 0,.int .u32 0,.int .u32 0] true)),
(273,(TI.mk true 3 12 .struct [(0,((212,true))),(1,((212,true))),(2,((212,true)))] [.int .u32 0,.int .u32 0,.int .u32 0] true)),
(274,tF),
(275,(TI.mk false 1 0 .other [] [.any] false)),
(276,tF),
(277,tF),
(278,(TI.mk true 20 160 (.array 20 214) [] [.int .u64 0,.int .u64 0,.int .u64 0,.int .u64 0,.int .u64 0,.int .u64 0,.int .u64 0,.int .u64 0,.int .u64 0,.int .u64 0,.int .u64 0,.int .u64 0,.int .u64 0,.int .u64 0,.int .u64 0,.int .u64 0,.int .u64 0,.int .u64 0,.int .u64 0,.int .u64 0] false)),
(279,(TI.mk true 65 65 (.array 65 5) [] [.int .u8 0,.int .u8 0,.int .u8 0,.int .u8 0,.int .u8 0,.int .u8 0,.int .u8 0,.int .u8 0,.int .u8 0,.int .u8 0,.int .u8 0,.int .u8 0,.int .u8 0,.int .u8 0,.int .u8 0,.int .u8 0,.int .u8 0,.int .u8 0,.int .u8 0,.int .u8 0,.int .u8 0,.int .u8 0,.int .u8 0,.int .u8 0,.int .u8 0,.int .u8 0,.int .u8 0,.int .u8 0,.int .u8 0,.int .u8 0,.int .u8 0,.int .u8 0,.int .u8 0,.int .u8 0,.int .u8 0,.int .u8 0,.int .u8 0,.int .u8 0,.int .u8 0,.int .u8 0,.int .u8 0,.int .u8 0,.int .u8 0,.int .u8 0,.int .u8 0,.int .u8 0,.int .u8 0,.int .u8 0,.int .u8 0,.int .u8 0,.int .u8 0,.int .u8 0,.int .u8 0,.int .u8 0,.int .u8 0,.int .u8 0,.int .u8 0,.int .u8 0,.int .u8 0,.int .u8 0,.int .u8 0,.int .u8 0,.int .u8 0,.int .u8 0,.int .u8 0] false)),
(280,(TI.mk false 1 0 .other [] [.any] false)),
(281,tF),
(282,(TI.mk true 3 48 .struct [(0,((9,true))),(1,((9,true))),(2,((106,true)))] [.str [],.str [],.nili] false)),
(283,(TI.mk true 3 48 .struct [(0,((9,true))),(1,((9,true))),(2,((106,true)))] [.str [],.str [],.nili] false)),
(284,tF),
(285,(TI.mk false 1 8 .ptr [] [.nilp] false)),
(286,(TI.mk false 1 8 .ptr [] [.nilp] false)),
(287,tF),
(288,(TI.mk false 1 8 .ptr [] [.nilp] false)),
(289,(TI.mk true 1 16 .struct [(0,((9,true)))] [.str []] true)),
(290,(TI.mk true 1 16 .struct [(0,((9,true)))] [.str []] true)),
(291,(TI.mk true 32 32 (.array 32 5) [] [.int .u8 0,.int .u8 0,.int .u8 0,.int .u8 0,.int .u8 0,.int .u8 0,.int .u8 0,.int .u8 0,.int .u8 0,.int .u8 0,.int .u8 0,.int .u8 0,.int .u8 0,.int .u8 0,.int .u8 0,.int .u8 0,.int .u8 0,.int .u8 0,.int .u8 0,.int .u8 0,.int .u8 0,.int .u8 0,.int .u8 0,.int .u8 0,.int .u8 0,.int .u8 0,.int .u8 0,.int .u8 0,.int .u8 0,.int .u8 0,.int .u8 0,.int .u8 0] false)),
(292,(TI.mk true 64 64 (.array 64 5) [] [.int .u8 0,.int .u8 0,.int .u8 0,.int .u8 0,.int .u8 0,.int .u8 0,.int .u8 0,.int .u8 0,.int .u8 0,.int .u8 0,.int .u8 0,.int .u8 0,.int .u8 0,.int .u8 0,.int .u8 0,.int .u8 0,.int .u8 0,.int .u8 0,.int .u8 0,.int .u8 0,.int .u8 0,.int .u8 0,.int .u8 0,.int .u8 0,.int .u8 0,.int .u8 0,.int .u8 0,.int .u8 0,.int .u8 0,.int .u8 0,.int .u8 0,.int .u8 0,.int .u8 0,.int .u8 0,.int .u8 0,.int .u8 0,.int .u8 0,.int .u8 0,.int .u8 0,.int .u8 0,.int .u8 0,.int .u8 0,.int .u8 0,.int .u8 0,.int .u8 0,.int .u8 0,.int .u8 0,.int .u8 0,.int .u8 0,.int .u8 0,.int .u8 0,.int .u8 0,.int .u8 0,.int .u8 0,.int .u8 0,.int .u8 0,.int .u8 0,.int .u8 0,.int .u8 0,.int .u8 0,.int .u8 0,.int .u8 0,.int .u8 0,.int .u8 0] false)),
(293,(TI.mk true 4 40 .struct [(0,((17,true))),(1,((17,true))),(2,((17,true))),(3,((9,true)))] [.nilp,.nilp,.nilp,.str []] false)),
(294,(TI.mk true 4 40 .struct [(0,((17,true))),(1,((17,true))),(2,((17,true))),(3,((9,true)))] [.nilp,.nilp,.nilp,.str []] false)),
(295,(TI.mk true 0 0 (.array 0 16) [] [] false)),
(296,(TI.mk true 0 0 .struct [(0,((295,false)))] [] false)),
(297,(TI.mk true 0 0 .struct [(0,((295,false)))] [] false)),
(298,(TI.mk false 1 1 (.int .u8) [] [.int .u8 0] false)),
(299,(TI.mk false 1 1 (.int .u8) [] [.int .u8 0] false)),
(300,tF),
(301,(TI.mk false 1 4 (.int .i32) [] [.int .i32 0] false)),
(302,(TI.mk false 1 4 (.int .i32) [] [.int .i32 0] false)),
(303,(TI.mk true 11 48 .struct [(0,((12,true))),(1,((12,true))),(2,((212,true))),(3,((298,true))),(4,((5,true))),(5,((5,true))),(6,((299,true))),(7,((300,true))),(8,((161,true))),(9,((301,true))),(10,((302,true)))] [.int .u64 0,.int .u64 0,.int .u32 0,.int .u8 0,.int .u8 0,.int .u8 0,.int .u8 0,.nilf,.nilp,.int .i32 0,.int .i32 0] false)),
(304,(TI.mk true 11 48 .struct [(0,((12,true))),(1,((12,true))),(2,((212,true))),(3,((298,true))),(4,((5,true))),(5,((5,true))),(6,((299,true))),(7,((300,true))),(8,((161,true))),(9,((301,true))),(10,((302,true)))] [.int .u64 0,.int .u64 0,.int .u32 0,.int .u8 0,.int .u8 0,.int .u8 0,.int .u8 0,.nilf,.nilp,.int .i32 0,.int .i32 0] false))]
def sg:List (Nat×TI)->Nat->Option TI
 |[],_=>none
 |(k,x):: r,t=>bif Nat.beq k t then some x else sg r t
noncomputable def T:TT:=sg tab
def Bh:Ann:={kinds:=[(4,.S),(10,.S)],no:=[114],nl:=[14,18,20,25,29,31,35,41,44,46,68,74,83,97,100,106,119,124,126,131,139,145],lw:=[4,6,7,9,10,30,32,61,110,116],joins:=[(1000001,{vals:=[(1,none),(3,none),(4,none),(5,none),(8,none),(7000,none),(7001,none),(7002,none),(7003,none),(7004,none),(7005,none),(7006,none),(7007,none),(7008,none),(8000,none),(8001,none),(8002,none),(8003,none),(8004,some 12),(8005,none),(8006,none),(8007,none),(8008,none)],locs:=[(6,7000,0),(7,8000,0)],lbs:=[(7000,9),(8000,9)]})],loops:=[(0,{vals:=[(1,none),(3,none),(4,none),(5,none),(8,none),(7000,none),(7001,none),(7002,none),(7003,none),(7004,none),(7005,none),(7006,none),(7007,none),(7008,none),(8000,none),(8001,none),(8002,none),(8003,none),(8004,some 12),(8005,none),(8006,none),(8007,none),(8008,none)],locs:=[(6,7000,0),(7,8000,0)],lbs:=[(7000,9),(8000,9)]}),(2,{vals:=[(1,none),(3,none),(4,none),(5,none),(8,none),(10,none),(12,none),(7000,none),(7001,none),(7002,none),(7003,none),(7004,none),(7005,none),(7006,none),(7007,none),(7008,none),(8000,none),(8001,none),(8002,none),(8003,none),(8004,some 12),(8005,none),(8006,none),(8007,none),(8008,none),(10000,none),(10001,none),(10002,none),(10003,none),(10004,none),(10005,none),(10006,none),(10007,none),(10008,none),(10009,none),(10010,none),(10011,none)],locs:=[(6,7000,0),(7,8000,0),(9,10000,0)],lbs:=[(7000,9),(8000,9),(10000,12)]})]}
def x8:Ann:={kinds:=[(4,.S)],nl:=[6,11,16,22,23,31,36,38],lw:=[4],loops:=[(0,{vals:=vN [1,16,17,18]})]}
def uC:Ann:={kinds:=[(1,.S),(2,.S),(5,.S),(7,.S),(9,.S),(11,.S),(12,.S),(13,.S)],no:=[16,21,44,46,48,50],nl:=[23,26,35,40,64,65,69,81,86,87,91,92,97,104],lw:=[1,2,5,7,9,11,12,13]}
def x9:Ann:={nl:=[6,16,20,25,29,35,39,44,49,55,60,66,72,78],loops:=[(0,{vals:=vN [1,3]})]}
def A6:Ann:={kinds:=[(4,.B),(6,.S),(8,.S)],nl:=[9,13,16,22,27,29,32,38,43,44,48,51],lw:=[6,8],loops:=[(0,{vals:=vN [4,22,23,24]}),(2,{vals:=vN [4,6,22,23,24,38,39,40]})]}
def A7:Ann:={hb:=[5,7,15,36],no:=[59,71],lw:=[2,5,7,61,64,67,73],loops:=[(0,{vals:=[(0,none),(4,none),(6,none),(3000,none),(3001,none),(6000,none),(6001,some 5)],locs:=[(2,3000,0),(5,6000,0)],lbs:=[(3000,2),(6000,2)]}),(2,{vals:=[(0,none),(4,none),(6,none),(8,none),(3000,none),(3001,none),(6000,none),(6001,some 5),(8000,none),(8001,some 2),(8002,none),(8003,none),(8004,none)],locs:=[(2,3000,0),(5,6000,0),(7,8000,0)],lbs:=[(3000,2),(6000,2),(8000,5)]})],nils:=[(5,[1]),(7,[1])]}
def ya:Ann:={kinds:=[(9,.S)],hl:=[37],nl:=[11,18,21,37,41],lw:=[4,7,9,28,29],loops:=[(0,{vals:=vN [31,32,33,5000,5001,5002,5003,5004,8000,8001,8002,8003,8004],locs:=[(4,5000,0),(7,8000,0)],lbs:=[(5000,5),(8000,5)]})],ords:=[(5,[0,1,3,4,2,6,5,7,8,9])]}
def yb:Ann:={nl:=[7,9,13,16,22,28,31,33,36],loops:=[(0,{vals:=vN [2,3,5]})]}
def yc:Ann:={nl:=[7,9,13,15,20,23,29,31,37,43,46,48,51],loops:=[(0,{vals:=vN [2,3,5]})]}
def yd:Ann:={kinds:=[(5,.S),(8,.S)],ha:=[54],hb:=[6,15,33],no:=[46,53],nl:=[9,14,17,22,24,27,29,32,35,40,44],lw:=[2,3,5,6,8,48,55],loops:=[(0,{vals:=vN [17,18,19,3000,3001,4000,4001],locs:=[(2,3000,0),(3,4000,0)],lbs:=[(3000,2),(4000,2)]}),(2,{vals:=[(17,none),(18,none),(19,none),(35,none),(36,none),(37,none),(3000,none),(3001,none),(4000,none),(4001,none),(7000,none),(7001,some 2),(7002,none),(7003,none),(7004,none)],locs:=[(2,3000,0),(3,4000,0),(6,7000,0)],lbs:=[(3000,2),(4000,2),(7000,5)]})],ords:=[(8,[0,1,2,3,5,6,8,4,7,9])],nils:=[(6,[1])]}
def A8:Ann:={nl:=[6,8,12,14,19,21]}
def A9:Ann:={nl:=[6,8,12,14]}
def ye:Ann:={nl:=[3]}
def yf:Ann:={kinds:=[(8,.S)],nl:=[13,18,32,37,40,44,50,56,62,68,74,77,82,88,94,100,102,109,112,115,121,126,133],lw:=[8],joins:=[(116,{vals:=vN [1,9,10]})],loops:=[(0,{vals:=vN [1,3,13,14,15]}),(2,{vals:=vN [1,6,32,33,34]})]}
def yg:Ann:={nl:=[6,8,12,14]}
def yh:Ann:={nl:=[3]}
def yj:Ann:={nl:=[3]}
def Ba:Ann:={nl:=[5,8,12,13]}
def Bb:Ann:={nl:=[3]}
def yk:Ann:={}
def yl:Ann:={nl:=[4,9,15,21,26]}
def Bc:Ann:={hb:=[3,5],no:=[19],nl:=[17],lw:=[2,3,21],loops:=[(0,{vals:=[(0,none),(4,none),(3000,none),(3001,none),(4000,none),(4001,some 3)],locs:=[(2,3000,0),(3,4000,0)],lbs:=[(3000,2),(4000,2)]})],nils:=[(3,[1])]}
def ym:Ann:={nl:=[18],loops:=[(0,{vals:=vN [0,3]})]}
def yn:Ann:={nl:=[17],loops:=[(0,{vals:=vN [0,3]})]}
def Bd:Ann:={iso:=false,hl:=[12],ha:=[14],hb:=[14],nl:=[12]}
def Be:Ann:={}
def Bf:Ann:={}
def Bg:Ann:={iso:=false,kinds:=[(5,.S)],nl:=[8,12,16,21,26,29,34],lw:=[5],loops:=[(0,{vals:=vN [0,21,22,23]})]}
def Bi:Ann:={iso:=false,kinds:=[(5,.H)],hb:=[4]}
def Bj:Ann:={iso:=false,hl:=[11,19,26,36],nl:=[11,19,26,36]}
def Bl:Ann:={iso:=false}
def Bm:Ann:={iso:=false,hl:=[6],nl:=[6]}
def Bn:Ann:={iso:=false,hb:=[5,10],no:=[48],lw:=[4,5,7,44,50],loops:=[(0,{vals:=[(0,none),(1,none),(6,none),(5000,none),(5001,none),(6000,none),(6001,some 3)],locs:=[(4,5000,0),(5,6000,0)],lbs:=[(5000,2),(6000,2)]})],nils:=[(5,[1])]}
def ud:Ann:={nl:=[15],loops:=[(0,{vals:=vN [0,1,7,8]})]}
def ue:Ann:={nl:=[5,6]}
def nQ:Ann:={iso:=false,ha:=[7]}
def qI:Ann:={kinds:=[(1,.L),(4,.S)],nl:=[16,21],lw:=[2,4,8],loops:=[(0,{vals:=vN [10,11,12,2000,2001,3000,3001],locs:=[(1,2000,0),(2,3000,0)],lbs:=[(2000,2),(3000,2)]})]}
def uf:Ann:={nl:=[7,9,13,16,22,28,32,34,38,42,46,48,52],loops:=[(0,{vals:=vN [2,3,5]})]}
def qJ:Ann:={nl:=[6,8]}
def qK:Ann:={}
def yQ:Ann:={kinds:=[(8,.S),(9,.S)],nl:=[21,25,27,28],lw:=[8,9],loops:=[(0,{vals:=vN [1,2,15,16,17]})]}
def yR:Ann:={kinds:=[(8,.S),(9,.S)],nl:=[21,25,27,28],lw:=[8,9],loops:=[(0,{vals:=vN [1,2,15,16,17]})]}
def yS:Ann:={nl:=[6,8,12,14,19,21,26,28]}
def yT:Ann:={nl:=[6,8,12,14]}
def ug:Ann:={kinds:=[(6,.S)],nl:=[11,16,21,27,31,37,43,45,53,55,60,66],lw:=[6],loops:=[(0,{vals:=vN [1,2,37,38,39]})]}
def uh:Ann:={kinds:=[(7,.S)],nl:=[14,17,21,27,33],lw:=[7],loops:=[(0,{vals:=vN [0,1,5,9,10,11]})]}
def ui:Ann:={nl:=[3]}
def uj:Ann:={kinds:=[(6,.S)],nl:=[12,13],lw:=[6],loops:=[(0,{vals:=vN [0,1,7,8,9]})]}
def uk:Ann:={kinds:=[(8,.S),(9,.S)],nl:=[21,25,27,28],lw:=[8,9],loops:=[(0,{vals:=vN [1,2,15,16,17]})]}
def ul:Ann:={nl:=[6,8,12,14]}
def yU:Ann:={nl:=[6,8,12]}
def um:Ann:={nl:=[13,21,33,36],loops:=[(0,{vals:=vN [1,2,3,7,8]})]}
def un:Ann:={nl:=[15,27,31],loops:=[(0,{vals:=vN [1,2,3,7,8]})]}
def yV:Ann:={}
def uo:Ann:={}
def uq:Ann:={}
def ut:Ann:={nl:=[3]}
def yW:Ann:={}
def yX:Ann:={iso:=false,hl:=[14,18,57],nl:=[14,18,57],ords:=[(7,[0,1,2,3,5,6,7,4,8,9,10,11,12,13,14])]}
def yY:Ann:={iso:=false}
def yZ:Ann:={iso:=false,hl:=[10],nl:=[10]}
def qL:Ann:={}
def za:Ann:={nl:=[6,8,12,14]}
def uu:Ann:={kinds:=[(5,.S),(8,.S)],nl:=[13,18,22,31,37,39,44,46,51,53,58,61,66,71,76,77],lw:=[5,8],loops:=[(0,{vals:=vN [1,71,72,73]})]}
def zb:Ann:={kinds:=[(4,.S)],nl:=[8,10,17,19],lw:=[4]}
def zc:Ann:={nl:=[15],loops:=[(0,{vals:=vN [0,1,7,8]})]}
def uv:Ann:={}
def uw:Ann:={loops:=[(0,{vals:=vN [0,1,5]})]}
def ux:Ann:={}
def uy:Ann:={}
def uz:Ann:={nl:=[15],loops:=[(0,{vals:=vN [0,1,7,8]})]}
def zd:Ann:={}
def uA:Ann:={nl:=[6,8,11,16,23,30,36,45,54,58,63,65],lw:=[2,4,17,24,31,37,46,55,66,67],joins:=[(12,{vals:=vN [1,11,12,3000,3001,3002,3003,3004,3005,5000,5001,5002,5003,5004,5005],locs:=[(2,3000,0),(4,5000,0)],lbs:=[(3000,6),(5000,6)]}),(19,{vals:=vN [1,11,19,3000,3001,3002,3003,3004,3005,5000,5001,5002,5003,5004,5005],locs:=[(2,3000,0),(4,5000,0)],lbs:=[(3000,6),(5000,6)]}),(26,{vals:=vN [1,11,26,3000,3001,3002,3003,3004,3005,5000,5001,5002,5003,5004,5005],locs:=[(2,3000,0),(4,5000,0)],lbs:=[(3000,6),(5000,6)]})]}
def uB:Ann:={nl:=[6,10,14,20,24,30,34,39,44,54,59,63,67,73,80,86,96,100,106],joins:=[(47,{vals:=vN [1,6,47]})],loops:=[(1,{vals:=vN [1,80,81,82]})]}
def ze:Ann:={}
def zf:Ann:={}
noncomputable def jj:List (Nat×(Func×Ann)):=[
(9,(Tryz.f9,Bh)),
(27,(Tryz.f27,x8)),
(29,(Tryz.f29,uC)),
(30,(Tryz.f30,x9)),
(33,(Tryz.f33,A6)),
(35,(Tryz.f35,A7)),
(37,(Tryz.f37,ya)),
(39,(Tryz.f39,yb)),
(40,(Tryz.f40,yc)),
(42,(Tryz.f42,yd)),
(44,(Tryz.f44,A8)),
(46,(Tryz.f46,A9)),
(47,(Tryz.f47,ye)),
(48,(Tryz.f48,yf)),
(49,(Tryz.f49,yg)),
(52,(Tryz.f52,yh)),
(53,(Tryz.f53,yj)),
(56,(Tryz.f56,Ba)),
(73,(Tryz.f73,Bb)),
(76,(Tryz.f76,yk)),
(77,(Tryz.f77,yl)),
(80,(Tryz.f80,Bc)),
(81,(Tryz.f81,ym)),
(82,(Tryz.f82,yn)),
(83,(Tryz.f83,Bd)),
(84,(Tryz.f84,Be)),
(85,(Tryz.f85,Bf)),
(86,(Tryz.f86,Bg)),
(91,(Tryz.f91,Bi)),
(92,(Tryz.f92,Bj)),
(93,(Tryz.f93,Bl)),
(94,(Tryz.f94,Bm)),
(95,(Tryz.f95,Bn)),
(101,(Tryz.f101,ud)),
(102,(Tryz.f102,ue)),
(105,(Tryz.f105,uf)),
(108,(Tryz.f108,qJ)),
(109,(Tryz.f109,qK)),
(111,(Tryz.f111,yQ)),
(113,(Tryz.f113,yR)),
(114,(Tryz.f114,yS)),
(115,(Tryz.f115,yT)),
(116,(Tryz.f116,ug)),
(117,(Tryz.f117,uh)),
(118,(Tryz.f118,ui)),
(119,(Tryz.f119,uj)),
(120,(Tryz.f120,uk)),
(121,(Tryz.f121,ul)),
(125,(Tryz.f125,yU)),
(129,(Tryz.f129,um)),
(130,(Tryz.f130,un)),
(131,(Tryz.f131,yV)),
(146,(Tryz.f146,uo)),
(148,(Tryz.f148,uq)),
(149,(Tryz.f149,ut)),
(154,(Tryz.f154,yW)),
(157,(Tryz.f157,yX)),
(158,(Tryz.f158,yY)),
(159,(Tryz.f159,yZ)),
(169,(Tryz.f169,qL)),
(177,(Tryz.f177,za)),
(178,(Tryz.f178,uu)),
(186,(Tryz.f186,zb)),
(189,(Tryz.f189,zc)),
(199,(Tryz.f199,uv)),
(200,(Tryz.f200,uw)),
(201,(Tryz.f201,ux)),
(202,(Tryz.f202,uy)),
(204,(Tryz.f204,uz)),
(210,(Tryz.f210,zd)),
(226,(Tryz.f226,uA)),
(227,(Tryz.f227,uB)),
(244,(Tryz.f244,ze)),
(272,(Tryz.f272,zf))]
def m7:List (Nat×(Func×Ann))->Nat->Option (Func×Ann)
 |[],_=>none
 |(k,x):: r,t=>bif Nat.beq k t then some x else m7 r t
def own:FuncId->Option Nat:=fun f=>bif Nat.beq f 163 then some 3 else none
noncomputable def other:FuncId->Option ((FuncId->List AV->M AV)->List AV->M AV):=fun f=>
 bif Nat.beq f 87 then some (dK 5)else bif Nat.beq f 103 then some (cv T 54)else bif Nat.beq f 104 then some (gW)else bif Nat.beq f 107 then some (dZ 5 108)else bif Nat.beq f 147 then some (fB)else bif Nat.beq f 152 then some (fV [(104,2),(149,3)])else bif Nat.beq f 153 then some (su)else bif Nat.beq f 181 then some (kF)else bif Nat.beq f 208 then some (fY)else bif Nat.beq f 209 then some (r6 257)else none
noncomputable def pg:Pg:={ T:=T,funcs:=m7 jj,own:=own,other:=other,nw:=fun f=>bif Nat.beq f 103 then true else false }
def hOther:cC pg:=by
 intro f E hE call calls hc;have h0:other f=some E:=hE;unfold other at h0;rcases cE h0 with rfl|h0
 ·exact a6.const _
 rcases cE h0 with rfl|h0
 ·exact kW _ _ _ _
 rcases cE h0 with rfl|h0
 ·exact a6.const _
 rcases cE h0 with rfl|h0
 ·exact a6.const _
 rcases cE h0 with rfl|h0
 ·exact a6.const _
 rcases cE h0 with rfl|h0
 ·exact a6.const _
 rcases cE h0 with rfl|h0
 ·exact a6.const _
 rcases cE h0 with rfl|h0
 ·exact a6.const _
 rcases cE h0 with rfl|h0
 ·exact a6.const _
 rcases cE h0 with rfl|h0
 ·exact a6.const _
 cases h0
end Go.Proofs.YteemeakjlfnapaaGreatDoor
namespace Go.Proofs.YteemeakjlfnapaaGreatDoor
open Go Go.Av
set_option maxRecDepth 1000000
instance dr0:Dr:=⟨False⟩
def lR{p:Prop}(h:Dr.on):p:=False.elim h
def Am:(tab.map fun x=>An Tryz.prog x.1)=tab.map fun x=>some x.2:=by kernel_rfl
theorem m8:(l:List (Nat×TI))->(t:Nat)->(ti:TI)->sg l t=some ti->(t,ti)∈l
 |[],t,ti,h=>by cases h
 | (k,x):: r,t,ti,h=>by
  simp only[sg]at h;cases hk:Nat.beq k t with
  |true=>
   rw[hk]at h;simp only[Dx,Dw]at h
   have:=DC hk
   subst this h;exact Ew
  |false=>
   rw[hk]at h;exact EI _ (m8 r t ti h)
theorem d8{α β:Type}{f g:α->β}:{l:List α} ->l.map f=l.map g->∀x∈l,f x=g x
 |[],_,x,hx=>by cases hx
 |a:: l,h,x,hx=>by
  simp only[D8,FJ]at h;rcases DX.1 hx with rfl|hx
  ·exact h.1
  ·exact d8 h.2 x hx
def tok:TOK Tryz.prog T:=⟨fun t ti h=>d8 Am (t,ti) (m8 tab t ti h),by kernel_rfl⟩
def oN:(jj.map fun x=>Tryz.prog.funcs[x.1]?)=jj.map fun x=>some x.2.1:=by kernel_rfl
def iD:(jj.map fun x=>x.2.1.name== "runtime.NumGoroutine")=jj.map fun _=>false:=by kernel_rfl
theorem jy:(l:List (Nat×(Func×Ann)))->(t:Nat)->(x:Func×Ann)->m7 l t=some x->(t,x)∈l
 |[],t,ti,h=>by cases h
 | (k,x):: r,t,ti,h=>by
  simp only[m7]at h;cases hk:Nat.beq k t with
  |true=>
   rw[hk]at h;simp only[Dx,Dw]at h
   have:=DC hk
   subst this h;exact Ew
  |false=>
   rw[hk]at h;exact EI _ (jy r t ti h)
def pI:∀f fn a,pg.funcs f=some (fn,a)->Tryz.prog.funcs[f]? = some fn/\(fn.name== "runtime.NumGoroutine")=false:=by
 intro f fn a h
 have:=jy jj f (fn,a) h
 exact⟨d8 oN _ this,d8 iD _ this⟩
end Go.Proofs.YteemeakjlfnapaaGreatDoor
namespace Go.Proofs.YteemeakjlfnapaaGreatDoor
open Go Go.Av Go.RowKit
set_option maxRecDepth 100000
def below_grow(w:World)(k:Nat)(os:Array Obj):Below w.heap.size w (Go.Sort.grow (w.drewN k) os):=by
 refine (show Below w.heap.size w (w.drewN k)from⟨rfl,rfl,rfl,DD _,fun _ _=>rfl⟩).trans ⟨rfl,rfl,rfl,?_,fun b hb=>?_⟩
 ·simp[Go.Sort.grow]
 ·have hb':b<(w.drewN k).heap.size:=hb;show ((w.drewN k).heap++os)[b]? = _;rw[E0 hb']
def xV{w:World}(h:GOKw w):Lib.TabIs Tryz.prog w "internal/strconv.uint64pow10" .u64 Lib.pow10Tab:=by
 obtain⟨t,fr,hp⟩:=h.pow
 have hn:Tryz.prog.globalNamed "internal/strconv.uint64pow10" = some 3:=by kernel_rfl
 unfold Lib.TabIs World.var?;rw[hn];simp only[Fh,hp]
def z7(call:FuncId->List AV->M AV)(args:List AV)(h:Hp)(S:ap)(β:List a8)(w:World)(vs:List Value)(hr:su call args h≠.fail)(hg:kJ β h w)(hw:Wf S w)(hh:bJ S β w h)(hv:aG S β args vs):
  Calls Tryz.prog 153 vs.toArray w (cF none S β h w (su call args h)):=by
 unfold su at hr |-;split at hr
 ·rename_i n;simp only[aG,VR]at hv;obtain⟨v,r,rfl,rfl,rfl⟩:=hv;cases hc:(decide (-9223372036854775808<=n)&&decide (n<=9223372036854775807))with
  |false=>rw[hc]at hr;exact absurd rfl hr
  |true=>
   simp only[Dy,DK]at hc;simp only[Dx];refine (Any.strconv_Itoa Do n hc.1 hc.2 w (xV hg.1)).mono ?_;rintro e w' ⟨rfl,k,os,rfl⟩;exact bE hw hh (below_grow w k os) lR (by simp only[VR];exact⟨_,rfl,by rw[vG hc.1 hc.2]⟩)
 ·exact absurd rfl hr
def kG{S:ap}{β:List a8}{s:List UInt8}{r:List Value}{l:List AV}(hv:aG S β (.str s:: l) r):∃x r',r= .string x:: r'/\x.data.toList=s/\aG S β l r':=by
 simp only[aG,VR]at hv;obtain⟨v,r',rfl,⟨x,rfl,hx⟩,h⟩:=hv;exact⟨x,r',rfl,hx,h⟩
def zZ(call:FuncId->List AV->M AV)(args:List AV)(h:Hp)(S:ap)(β:List a8)(w:World)(vs:List Value)(hr:fB call args h≠.fail)(hg:kJ β h w)(hw:Wf S w)(hh:bJ S β w h)(hv:aG S β args vs):
  Calls Tryz.prog 147 vs.toArray w (cF none S β h w (fB call args h)):=by
 unfold fB at hr |-;split at hr
 ·rename_i s t;obtain⟨x,r,rfl,hx,hv⟩:=kG hv;obtain⟨y,r,rfl,hy,hv⟩:=kG hv;simp only[aG]at hv;subst hv;cases hc:decide (s.length<4294967281)with
  |false=>rw[hc]at hr;exact absurd rfl hr
  |true=>
   simp only[Dx];have hlen:x.size=s.length:=by rw[<- hx,En];rfl
   obtain⟨m,hm⟩:=hg.1.max;refine (Any.strings_Contains Dp x y m w (by have:=Fu hc;omega) hm).mono ?_;rintro e w' ⟨rfl,rfl⟩;exact bE hw hh (Below.refl _ _) lR (by simp only[VR];rw[hx,hy])
 ·exact absurd rfl hr
end Go.Proofs.YteemeakjlfnapaaGreatDoor
namespace Go.Proofs
open Go.Shelf
def Dj:Go.Shelf.Ren:=⟨fun|6=>107|15=>168|14=>167|28=>222|29=>223|20=>214|21=>215|22=>216|23=>217|24=>218|25=>219|26=>220|27=>221|46=>246|47=>247|48=>248|49=>249|50=>250|57=>273|n=>n,fun|22=>22|24=>56|25=>126|3=>3|39=>175|0=>0|53=>212|55=>214|4=>4|46=>205|45=>204|50=>209|5=>5|9=>9|66=>234|70=>238|76=>260|77=>261|n=>n,fun|n=>n⟩
def Dg:Go.Proofs.SlLaysF0.n6 Tryz.prog Dj:={
 mixed:=by kernel_rfl
 f6:=⟨Tryz.f107.name,by decide,Tryz.func107.trans (Dz some (by kernel_rfl))⟩
 f14:=⟨Tryz.f167.name,by decide,Tryz.func167.trans (Dz some (by kernel_rfl))⟩
 f15:=Tryz.func168.trans (Dz some (by kernel_rfl))
 f20:=⟨Tryz.f214.name,by decide,Tryz.func214.trans (Dz some (by kernel_rfl))⟩
 f21:=⟨Tryz.f215.name,by decide,Tryz.func215.trans (Dz some (by kernel_rfl))⟩
 f22:=⟨Tryz.f216.name,by decide,Tryz.func216.trans (Dz some (by kernel_rfl))⟩
 f23:=⟨Tryz.f217.name,by decide,Tryz.func217.trans (Dz some (by kernel_rfl))⟩
 f24:=⟨Tryz.f218.name,by decide,Tryz.func218.trans (Dz some (by kernel_rfl))⟩
 f25:=⟨Tryz.f219.name,by decide,Tryz.func219.trans (Dz some (by kernel_rfl))⟩
 f26:=⟨Tryz.f220.name,by decide,Tryz.func220.trans (Dz some (by kernel_rfl))⟩
 f27:=⟨Tryz.f221.name,by decide,Tryz.func221.trans (Dz some (by kernel_rfl))⟩
 f28:=Tryz.func222.trans (Dz some (by kernel_rfl))
 f29:=Tryz.func223.trans (Dz some (by kernel_rfl))
 f46:=⟨Tryz.f246.name,by decide,Tryz.func246.trans (Dz some (by kernel_rfl))⟩
 f47:=Tryz.func247.trans (Dz some (by kernel_rfl))
 f48:=Tryz.func248.trans (Dz some (by kernel_rfl))
 f49:=⟨Tryz.f249.name,by decide,Tryz.func249.trans (Dz some (by kernel_rfl))⟩
 f50:=⟨Tryz.f250.name,by decide,Tryz.func250.trans (Dz some (by kernel_rfl))⟩
 f57:=⟨Tryz.f273.name,by decide,Tryz.func273.trans (Dz some (by kernel_rfl))⟩
 t0:=Tryz.underlying0
 a0:=Tryz.isAgg0
 z0:=Tryz.sizeOf0
 v0:=Tryz.zeroValue0
 t3:=Tryz.underlying3
 a3:=Tryz.isAgg3
 z3:=Tryz.sizeOf3
 v3:=Tryz.zeroValue3
 t4:=Tryz.underlying4
 a4:=Tryz.isAgg4
 z4:=Tryz.sizeOf4
 v4:=Tryz.zeroValue4
 t5:=Tryz.underlying5
 a5:=Tryz.isAgg5
 z5:=Tryz.sizeOf5
 v5:=Tryz.zeroValue5
 t9:=Tryz.underlying9
 a9:=Tryz.isAgg9
 z9:=Tryz.sizeOf9
 v9:=Tryz.zeroValue9
 t22:=Tryz.underlying22
 a22:=Tryz.isAgg22
 z22:=Tryz.sizeOf22
 v22:=Tryz.zeroValue22
 t25:=Tryz.underlying126
 a25:=Tryz.isAgg126
 z25:=Tryz.sizeOf126
 v25:=Tryz.zeroValue126
 t39:=Tryz.underlying175
 a39:=Tryz.isAgg175
 z39:=Tryz.sizeOf175
 v39:=Tryz.zeroValue175
 t45:=Tryz.underlying204
 a45:=Tryz.isAgg204
 z45:=Tryz.sizeOf204
 v45:=Tryz.zeroValue204
 t46:=Tryz.underlying205
 a46:=Tryz.isAgg205
 z46:=Tryz.sizeOf205
 v46:=Tryz.zeroValue205
 t50:=Tryz.underlying209
 a50:=Tryz.isAgg209
 z50:=Tryz.sizeOf209
 v50:=Tryz.zeroValue209
 t53:=Tryz.underlying212
 a53:=Tryz.isAgg212
 z53:=Tryz.sizeOf212
 v53:=Tryz.zeroValue212
 t55:=Tryz.underlying214
 a55:=Tryz.isAgg214
 z55:=Tryz.sizeOf214
 v55:=Tryz.zeroValue214
 t66:=Tryz.underlying234
 a66:=Tryz.isAgg234
 z66:=Tryz.sizeOf234
 v66:=Tryz.zeroValue234
 t70:=Tryz.underlying238
 a70:=Tryz.isAgg238
 z70:=Tryz.sizeOf238
 v70:=Tryz.zeroValue238
 t76:=Tryz.underlying260
 a76:=Tryz.isAgg260
 z76:=Tryz.sizeOf260
 v76:=Tryz.zeroValue260
 t77:=Tryz.underlying261
 a77:=Tryz.isAgg261
 z77:=Tryz.sizeOf261
 v77:=Tryz.zeroValue261 }
def Dk:Go.Shelf.Ren:=⟨fun|172=>209|244=>242|245=>243|247=>267|279=>268|280=>269|281=>270|282=>271|287=>282|316=>283|171=>153|205=>284|321=>287|322=>288|243=>207|246=>240|283=>262|284=>263|285=>264|286=>265|129=>223|317=>278|318=>279|319=>280|320=>281|337=>285|338=>286|n=>n,fun|9=>9|3=>3|75=>106|76=>107|4=>4|5=>5|167=>254|37=>102|0=>0|85=>255|2=>2|168=>257|53=>214|175=>280|46=>175|210=>283|127=>161|145=>290|143=>288|21=>21|171=>250|173=>252|212=>278|51=>212|20=>20|213=>279|232=>291|233=>292|80=>112|n=>n,fun|15=>4|16=>5|17=>3|18=>6|19=>7|n=>n⟩
def Dh:Go.Proofs.LaysC.n172 Tryz.prog Dk:={
 mixed:=by kernel_rfl
 f129:=Tryz.func223.trans (Dz some (by kernel_rfl))
 f171:=Tryz.func153.trans (Dz some (by kernel_rfl))
 f172:=Tryz.func209.trans (Dz some (by kernel_rfl))
 f205:=Tryz.func284.trans (Dz some (by kernel_rfl))
 f243:=Tryz.func207.trans (Dz some (by kernel_rfl))
 f244:=Tryz.func242.trans (Dz some (by kernel_rfl))
 f245:=Tryz.func243.trans (Dz some (by kernel_rfl))
 f246:=Tryz.func240.trans (Dz some (by kernel_rfl))
 f247:=Tryz.func267.trans (Dz some (by kernel_rfl))
 f279:=Tryz.func268.trans (Dz some (by kernel_rfl))
 f280:=Tryz.func269.trans (Dz some (by kernel_rfl))
 f281:=Tryz.func270.trans (Dz some (by kernel_rfl))
 f282:=Tryz.func271.trans (Dz some (by kernel_rfl))
 f283:=Tryz.func262.trans (Dz some (by kernel_rfl))
 f284:=Tryz.func263.trans (Dz some (by kernel_rfl))
 f285:=Tryz.func264.trans (Dz some (by kernel_rfl))
 f286:=Tryz.func265.trans (Dz some (by kernel_rfl))
 f287:=Tryz.func282.trans (Dz some (by kernel_rfl))
 f316:=Tryz.func283.trans (Dz some (by kernel_rfl))
 f317:=Tryz.func278.trans (Dz some (by kernel_rfl))
 f318:=Tryz.func279.trans (Dz some (by kernel_rfl))
 f319:=Tryz.func280.trans (Dz some (by kernel_rfl))
 f320:=Tryz.func281.trans (Dz some (by kernel_rfl))
 f321:=Tryz.func287.trans (Dz some (by kernel_rfl))
 f322:=Tryz.func288.trans (Dz some (by kernel_rfl))
 f337:=Tryz.func285.trans (Dz some (by kernel_rfl))
 f338:=Tryz.func286.trans (Dz some (by kernel_rfl))
 t0:=Tryz.underlying0
 a0:=Tryz.isAgg0
 z0:=Tryz.sizeOf0
 v0:=Tryz.zeroValue0
 t2:=Tryz.underlying2
 a2:=Tryz.isAgg2
 z2:=Tryz.sizeOf2
 v2:=Tryz.zeroValue2
 t3:=Tryz.underlying3
 a3:=Tryz.isAgg3
 z3:=Tryz.sizeOf3
 v3:=Tryz.zeroValue3
 t4:=Tryz.underlying4
 a4:=Tryz.isAgg4
 z4:=Tryz.sizeOf4
 v4:=Tryz.zeroValue4
 t5:=Tryz.underlying5
 a5:=Tryz.isAgg5
 z5:=Tryz.sizeOf5
 v5:=Tryz.zeroValue5
 t9:=Tryz.underlying9
 a9:=Tryz.isAgg9
 z9:=Tryz.sizeOf9
 v9:=Tryz.zeroValue9
 t20:=Tryz.underlying20
 a20:=Tryz.isAgg20
 z20:=Tryz.sizeOf20
 v20:=Tryz.zeroValue20
 t21:=Tryz.underlying21
 a21:=Tryz.isAgg21
 z21:=Tryz.sizeOf21
 v21:=Tryz.zeroValue21
 t37:=Tryz.underlying102
 a37:=Tryz.isAgg102
 z37:=Tryz.sizeOf102
 v37:=Tryz.zeroValue102
 t46:=Tryz.underlying175
 a46:=Tryz.isAgg175
 z46:=Tryz.sizeOf175
 v46:=Tryz.zeroValue175
 t51:=Tryz.underlying212
 a51:=Tryz.isAgg212
 z51:=Tryz.sizeOf212
 v51:=Tryz.zeroValue212
 t53:=Tryz.underlying214
 a53:=Tryz.isAgg214
 z53:=Tryz.sizeOf214
 v53:=Tryz.zeroValue214
 t75:=Tryz.underlying106
 a75:=Tryz.isAgg106
 z75:=Tryz.sizeOf106
 v75:=Tryz.zeroValue106
 t76:=Tryz.underlying107
 a76:=Tryz.isAgg107
 z76:=Tryz.sizeOf107
 v76:=Tryz.zeroValue107
 t85:=Tryz.underlying255
 a85:=Tryz.isAgg255
 z85:=Tryz.sizeOf255
 v85:=Tryz.zeroValue255
 t127:=Tryz.underlying161
 a127:=Tryz.isAgg161
 z127:=Tryz.sizeOf161
 v127:=Tryz.zeroValue161
 t143:=Tryz.underlying288
 a143:=Tryz.isAgg288
 z143:=Tryz.sizeOf288
 v143:=Tryz.zeroValue288
 t145:=Tryz.underlying290
 a145:=Tryz.isAgg290
 z145:=Tryz.sizeOf290
 v145:=Tryz.zeroValue290
 t167:=Tryz.underlying254
 a167:=Tryz.isAgg254
 z167:=Tryz.sizeOf254
 v167:=Tryz.zeroValue254
 t168:=Tryz.underlying257
 a168:=Tryz.isAgg257
 z168:=Tryz.sizeOf257
 v168:=Tryz.zeroValue257
 t171:=Tryz.underlying250
 a171:=Tryz.isAgg250
 z171:=Tryz.sizeOf250
 v171:=Tryz.zeroValue250
 t173:=Tryz.underlying252
 a173:=Tryz.isAgg252
 z173:=Tryz.sizeOf252
 v173:=Tryz.zeroValue252
 t175:=Tryz.underlying280
 a175:=Tryz.isAgg280
 z175:=Tryz.sizeOf280
 v175:=Tryz.zeroValue280
 t210:=Tryz.underlying283
 a210:=Tryz.isAgg283
 z210:=Tryz.sizeOf283
 v210:=Tryz.zeroValue283
 t212:=Tryz.underlying278
 a212:=Tryz.isAgg278
 z212:=Tryz.sizeOf278
 v212:=Tryz.zeroValue278
 t213:=Tryz.underlying279
 a213:=Tryz.isAgg279
 z213:=Tryz.sizeOf279
 t232:=Tryz.underlying291
 a232:=Tryz.isAgg291
 z232:=Tryz.sizeOf291
 v232:=Tryz.zeroValue291
 t233:=Tryz.underlying292
 a233:=Tryz.isAgg292
 z233:=Tryz.sizeOf292
 v233:=Tryz.zeroValue292
 g15:=by kernel_rfl
 g16:=by kernel_rfl
 g17:=by kernel_rfl
 g18:=by kernel_rfl
 g19:=by kernel_rfl
 t80:=Tryz.underlying112
 a80:=Tryz.isAgg112
 z80:=Tryz.sizeOf112
 v80:=Tryz.zeroValue112
 i0:=by kernel_rfl
 i2:=by kernel_rfl
 i3:=by kernel_rfl
 i4:=by kernel_rfl
 i5:=by kernel_rfl
 i9:=by kernel_rfl
 i20:=by kernel_rfl
 i21:=by kernel_rfl
 i37:=by kernel_rfl
 i46:=by kernel_rfl
 i51:=by kernel_rfl
 i53:=by kernel_rfl
 i75:=by kernel_rfl
 i76:=by kernel_rfl
 i80:=by kernel_rfl
 i85:=by kernel_rfl
 i127:=by kernel_rfl
 i143:=by kernel_rfl
 i145:=by kernel_rfl
 i167:=by kernel_rfl
 i168:=by kernel_rfl
 i171:=by kernel_rfl
 i173:=by kernel_rfl
 i175:=by kernel_rfl
 i210:=by kernel_rfl
 i212:=by kernel_rfl
 i232:=by kernel_rfl
 i233:=by kernel_rfl
 m15:=by kernel_rfl
 m16:=by kernel_rfl
 m17:=by kernel_rfl
 m18:=by kernel_rfl
 m19:=by kernel_rfl
 c0:=by kernel_rfl
 c2:=by kernel_rfl
 c3:=by kernel_rfl
 c4:=by kernel_rfl
 c5:=by kernel_rfl
 c9:=by kernel_rfl
 c20:=by kernel_rfl
 c21:=by kernel_rfl
 c37:=by kernel_rfl
 c46:=by kernel_rfl
 c51:=by kernel_rfl
 c53:=by kernel_rfl
 c75:=by kernel_rfl
 c76:=by kernel_rfl
 c80:=by kernel_rfl
 c85:=by kernel_rfl
 c127:=by kernel_rfl
 c143:=by kernel_rfl
 c145:=by kernel_rfl
 c167:=by kernel_rfl
 c168:=by kernel_rfl
 c171:=by kernel_rfl
 c173:=by kernel_rfl
 c175:=by kernel_rfl
 c210:=by kernel_rfl
 c212:=by kernel_rfl
 c213:=by kernel_rfl
 c232:=by kernel_rfl
 c233:=by kernel_rfl }
def Dn:Go.Shelf.Ren:=⟨fun|137=>208|217=>241|266=>266|n=>n,fun|9=>9|5=>5|3=>3|n=>n,fun|n=>n⟩
def Dq:Go.Proofs.Lays.n137 Tryz.prog Dn:={
 mixed:=by kernel_rfl
 f137:=Tryz.func208.trans (Dz some (by kernel_rfl))
 f217:=Tryz.func241.trans (Dz some (by kernel_rfl))
 f266:=Tryz.func266.trans (Dz some (by kernel_rfl))
 t3:=Tryz.underlying3
 a3:=Tryz.isAgg3
 z3:=Tryz.sizeOf3
 v3:=Tryz.zeroValue3
 t5:=Tryz.underlying5
 a5:=Tryz.isAgg5
 z5:=Tryz.sizeOf5
 v5:=Tryz.zeroValue5
 t9:=Tryz.underlying9
 a9:=Tryz.isAgg9
 z9:=Tryz.sizeOf9
 v9:=Tryz.zeroValue9 }
end Go.Proofs
namespace Go.Proofs.YteemeakjlfnapaaGreatDoor
open Go Go.Av Go.RowKit
set_option maxRecDepth 100000
def Ac(call:FuncId->List AV->M AV)(args:List AV)(h:Hp)(S:ap)(β:List a8)(w:World)(vs:List Value)(hr:r6 257 call args h≠.fail)(hg:kJ β h w)(hw:Wf S w)(hh:bJ S β w h)(hv:aG S β args vs):
  Calls Tryz.prog 209 vs.toArray w (cF none S β h w (r6 257 call args h)):=by
 unfold r6 at hr |-;split at hr
 ·rename_i s;obtain⟨x,r,rfl,hx,hv⟩:=kG hv;simp only[aG]at hv;subst hv;cases hc:decide (s.length<=281474976710656)with
  |false=>rw[hc]at hr;exact absurd rfl hr
  | true=>
   simp only[Dx];have hlen:x.size=s.length:=by rw[<- hx,En];rfl
   have hlim:=Fu hc;subst hx;cases ha:Lib.atoiAll x.data.toList with
   |ok v=>
    refine (Any.strconv_Atoi_ok Dh x (by omega) v ha w).mono ?_;rintro e w' ⟨rfl,hW⟩;refine bE hw hh ?_ lR (by simp only[r7,ha,VR,aG];exact⟨[_,_],rfl,_,_,rfl,rfl,_,_,rfl,rfl,rfl⟩);rcases hW with rfl|⟨t,rfl⟩
    ·exact Below.refl _ _
    ·exact Lib.bytesWorld_below _ _ _
   |range=>
    obtain⟨t,p,hs⟩:=hg.1.rng;refine (Any.strconv_Atoi_range Dh x (by omega) ha _ w hs (.inr ⟨t,p,rfl⟩)).mono ?_;rintro e w' ⟨N,rfl,_,_,hb⟩;exact bE hw hh hb lR (by simp only[r7,ha,VR,aG];exact⟨[_,_],rfl,_,_,rfl,rfl,_,_,rfl,⟨_,rfl,trivial⟩,rfl⟩)
   |_=>
    obtain⟨t,p,hs⟩:=hg.1.syn;refine (Any.strconv_Atoi_syntax Dh x (by omega) ha _ w hs (.inr ⟨t,p,rfl⟩)).mono ?_;rintro e w' ⟨N,rfl,_,_,hb⟩;exact bE hw hh hb lR (by simp only[r7,ha,VR,aG];exact⟨[_,_],rfl,_,_,rfl,rfl,_,_,rfl,⟨_,rfl,trivial⟩,rfl⟩)
 ·exact absurd rfl hr
def Ab(call:FuncId->List AV->M AV)(args:List AV)(h:Hp)(S:ap)(β:List a8)(w:World)(vs:List Value)(hr:fY call args h≠.fail)(_hg:kJ β h w)(hw:Wf S w)(hh:bJ S β w h)(hv:aG S β args vs):
  Calls Tryz.prog 208 vs.toArray w (cF none S β h w (fY call args h)):=by
 unfold fY at hr |-;split at hr
 ·rename_i s n;obtain⟨x,r,rfl,hx,hv⟩:=kG hv;simp only[aG,VR]at hv;obtain⟨_,_,rfl,rfl,rfl⟩:=hv;refine (Any.strings_IndexByte Dq x n w).mono ?_;rintro e w' ⟨rfl,rfl⟩;exact bE hw hh (Below.refl _ _) lR (by simp only[VR];rw[hx])
 ·exact absurd rfl hr
def yo:∃j,Tryz.prog.info? 104=some j/\j.size=2:=by
 have h:(Tryz.prog.info? 104).map (·.size)=some 2:=by kernel_rfl
 obtain⟨j,h1,h2⟩:=EF.1 h;exact⟨j,h1,h2⟩
set_option maxHeartbeats 1000000 in
def xa(b:Nat)(w:World)(h0:w.cell? ⟨b,0,none⟩=some (.pointer (some ⟨b,0,none⟩))):
  Calls Tryz.prog 152 #[.pointer (some ⟨b,0,none⟩)] w fun e w'=>e= .returned (.tuple #[])/\w'=w:=by
 obtain⟨j,hj,_⟩:=yo
 go_enter Tryz.func152,Tryz.ntmps152
 go_wp2
 rw[Lib.run_neq_ptr_same w _ Tryz.underlying101 hj]
 go_wp2
 go_end0
 exact⟨rfl,rfl⟩
set_option maxHeartbeats 1000000 in
def uN(b T n:Nat)(w:World)(h0:w.cell? ⟨b,0,none⟩=some (.pointer none))(hsh:w.shape? b=some (T,n))(hn:0<n)(hfz:w.frozen? ⟨b,0,none⟩=false)(hlies:liesAt Tryz.prog Tryz.prog.depth T (n / Tryz.prog.cellsOf T) 0 104 1=true):
  Calls Tryz.prog 152 #[.pointer (some ⟨b,0,none⟩)] w fun e w'=>e= .returned (.tuple #[])/\w'=w.setCell ⟨b,0,none⟩ (.pointer (some ⟨b,0,none⟩)):=by
 obtain⟨j,hj,hjs⟩:=yo
 go_enter Tryz.func152,Tryz.ntmps152
 go_wp2
 rw[Lib.run_to_unsafe w ⟨b,0,none⟩ Tryz.underlying101 Tryz.underlying198 hj (by rw[hjs];decide) hsh hn];simp only[Result.andThen];rw[Oper.upon_value]
 go_wp2
 rw[run_callFunc_extern Tryz.func206 (by kernel_rfl) (by kernel_rfl) (by kernel_rfl) (e:=Extern.AbiNoEscape.same) (by kernel_rfl)];rw[Lib.run_noEscape];simp only[Result.andThen];rw[Oper.upon_value]
 go_wp2
 rw[Lib.run_from_unsafe w ⟨b,0,none⟩ Tryz.underlying198 Tryz.underlying101 hj hsh hlies];simp only[Result.andThen];rw[Oper.upon_value]
 go_wp2
 go_end0
 exact⟨rfl,rfl⟩
def s9:Tryz.prog.cellsOf 5=1:=by kernel_rfl
set_option maxHeartbeats 2000000 in
def Al(b g cap:Nat)(cur:Array Value)(l:List UInt8)(w:World)(h0:l≠[])(hlt:l.length<=cap)(hc1:w.cell? ⟨b,1,none⟩=some (.slice (some ⟨g,0,none⟩) l.length cap))(hg:w.heap[g]? = some (.cells cur 5 (0,0)))(hcm:l.length<=140737488355328)(hsz:l.length<=cur.size)(hcells:∀(j:Nat)(x:UInt8),l[j]? = some x->cur[j]? = some (Value.int .u8 x.toNat)):
  Calls Tryz.prog 87 #[.pointer (some ⟨b,0,none⟩)] w fun e w'=>e= .returned (.string ⟨l.toArray⟩)/\w'=w.drew.freeze ⟨g,0,none⟩ l.length:=by
 have hl0:l.length≠0:=by simpa using h0
 have c1:w.drew.cell? ⟨b,1,none⟩=some (.slice (some ⟨g,0,none⟩) l.length cap):=hc1;have hSD:(Builtin.unsafeSliceData_ #[102] 161 #[.slice (some ⟨g,0,none⟩) l.length cap]).run Tryz.prog w.drew= .ok (.pointer (some ⟨g,0,none⟩)) w.drew:=
  Lib.run_unsafeSliceData_row _ _ _ _ _ _ (by omega)
 have hUS:(Builtin.unsafeString_ #[161,3] 9 #[.pointer (some ⟨g,0,none⟩),.int .i64 l.length]).run Tryz.prog w.drew= .ok (.string ⟨l.toArray⟩) (w.drew.freeze ⟨g,0,none⟩ l.length):=by
  refine Lib.run_unsafeString_row w.drew 161 3 9 5 Tryz.underlying161 s9 g cur.size (by have hg':w.drew.heap[g]? = some (.cells cur 5 (0,0)):=hg;simp[World.shape?,hg']) l h0 hsz (by omega) ?_;intro j x hx;have hg':w.drew.heap[g]? = some (.cells cur 5 (0,0)):=hg;rw[addr_add,DW,cell_of_row _ _ _ _ _ _ hg'];exact hcells j x hx
 go_enter Tryz.func87,Tryz.ntmps87
 go_wp2
 have mixed:Tryz.prog.follows Departure.mixedOrders=true:=by kernel_rfl
 go_region_o
 all_goals (go_wp2;go_ret;exact⟨rfl,rfl⟩)
set_option maxHeartbeats 2000000 in
theorem Ak(b:Nat)(w:World)(hc1:w.cell? ⟨b,1,none⟩=some (.slice none 0 0)):
  Calls Tryz.prog 87 #[.pointer (some ⟨b,0,none⟩)] w fun e w'=>e= .returned (.string ⟨#[]⟩)/\w'=w.drew:=by
 have hUS:=fun W q=>Lib.run_unsafeString_none (P:=Tryz.prog) W 161 3 9 q;have c1:w.drew.cell? ⟨b,1,none⟩=some (.slice none 0 0):=hc1;have hSD:(Builtin.unsafeSliceData_ #[102] 161 #[.slice none 0 0]).run Tryz.prog w.drew= .ok (.pointer none) w.drew:=rfl
 go_enter Tryz.func87,Tryz.ntmps87
 go_wp2
 have mixed:Tryz.prog.follows Departure.mixedOrders=true:=by kernel_rfl
 go_region_o
 all_goals (go_wp2;go_ret;exact⟨rfl,rfl⟩)
def rN{P:Program}{fits:TypeId->Bool}{d:Nat}{e:TypeId}{c c' off n:Nat}(hc:c<=c')(h:rowAt P fits d e c off n=true):rowAt P fits d e c' off n=true:=by
 cases d with
 |zero=>simp[rowAt]at h
 | succ d=>
  simp only[rowAt]at h|-;split at h
  ·cases h
  ·rename_i hs;rw[if_neg hs];simp only[EG,Dy,DK]at h|-;rcases h with h|h
   ·exact .inl ⟨⟨h.1.1,by omega⟩,h.2⟩
   ·exact .inr ⟨by omega,h.2⟩
theorem gI{P:Program}{u:TypeId}{e:TypeId}{c c' off:Nat}(hc:c<=c'):∀(d:Nat)(u:TypeId)(n:Nat),liesAt P d e c off u n=true->liesAt P d e c' off u n=true
 |0,u,n,h=>by simp[liesAt]at h
 | d+1,u,n,h=>by
  simp only[liesAt,EG]at h|-;rcases h with h|h
  ·exact .inl (rN hc h)
  ·refine .inr ?_;split at h
   ·exact gI (u:=u) hc d _ _ h
   ·cases h
def BW:liesAt Tryz.prog Tryz.prog.depth 104 1 0 104 1=true:=by kernel_rfl
def BX:liesAt Tryz.prog Tryz.prog.depth 149 1 0 104 1=true:=by kernel_rfl
def zl:Tryz.prog.cellsOf 104=2:=by kernel_rfl
def zr:Tryz.prog.cellsOf 149=3:=by kernel_rfl
def qw{w:World}{b:Nat}{z:Array Value}{t:TypeId}(hb:w.heap[b]? = some (.cells z t (0,0)))(v:Value):w.setCell ⟨b,0,none⟩ v=w.setRow b (z.setIfInBounds 0 v):=by
 unfold World.setCell World.setRow;congr 1;apply Array.ext (by simp);intro i h1 h2;simp only[Array.getElem_modify];split
 ·rename_i hi;subst hi;obtain⟨hlt,hk⟩:=Ea.1 hb;rw[hk];rfl
 ·rfl
def z6(call:FuncId->List AV->M AV)(args:List AV)(h:Hp)(S:ap)(β:List a8)(w:World)(vs:List Value)(hr:fV [(104,2),(149,3)] call args h≠.fail)(hg:kJ β h w)(hw:Wf S w)(hh:bJ S β w h)(hv:aG S β args vs):
  Calls Tryz.prog 152 vs.toArray w (cF none S β h w (fV [(104,2),(149,3)] call args h)):=by
 unfold fV at hr |-;cases hpo:tx args with
 |none=>rw[hpo]at hr;exact absurd rfl hr
 | some l=>
  rw[hpo]at hr
  have:=pK hpo
  subst this;simp only[aG,VR]at hv;obtain⟨_,_,rfl,⟨bk,hβ,hb0,rfl⟩,rfl⟩:=hv;obtain⟨b,nb⟩:=bk;dsimp only at hr |-;have hh0:=hh;obtain⟨hlen,ω,hhr⟩:=hh;cases hl:h[l]? with
  |none=>rw[hl]at hr;exact absurd rfl hr
  | some cs=>
   rw[hl]at hr;dsimp only at hr |-;cases hc:Cm [(104,2),(149,3)] l cs with
   |none=>rw[hc]at hr;exact absurd rfl hr
   | some cs'=>
    dsimp only;rcases wZ hc with⟨t,x,r,rfl,rfl,n,hm,hn⟩|⟨r,rfl,rfl⟩
    ·obtain⟨z,j1,j2,j3,j4,j5⟩:=hhr.cells hl (by simp) hβ hb0;obtain⟨y,hy⟩:=hhr.tag hl ⟨_,Ew,rfl⟩ hβ;cases j2.inj ⟨t,hy⟩;have hsz:r.length+2<=z.size:=by
      have:=j4.length
      simp at this;omega
     have hz0:z[0]? = some (.pointer none):=by
      have:=j4.get (i:=0) (c:=.nilb t) rfl
      obtain⟨v,h1,h2⟩:=this;simp only[VR]at h2;subst h2;rw[DJ]at h1;split at h1
      ·simpa using h1
      ·cases h1
     have hlies:liesAt Tryz.prog Tryz.prog.depth t (z.size / Tryz.prog.cellsOf t) 0 104 1=true:=by
      simp only[DX,Em,List.not_mem_nil,or_false]at hm;rcases hm with⟨rfl,rfl⟩|⟨rfl,rfl⟩
      ·rw[zl];exact gI (u:=104) (by omega) _ _ _ BW
      ·rw[zr];exact gI (u:=104) (by omega) _ _ _ BX
     refine (uN b t z.size w (by rw[cell_of_row _ _ _ _ _ _ hy];exact hz0) (by simp[World.shape?,hy]) (by omega) (by simp[World.frozen?,hy]) hlies).mono ?_;rintro e w' ⟨rfl,rfl⟩;rw[qw hy];refine q5 hg hw hh0 hl (by simp) hβ j2 (by simp) ?_ (fun t' ht=>?_)
     ·have hzl:z.toList= .pointer none:: z.toList.drop 1:=by
       have:=Et (l:=z.toList) (i:=0) (by simp;omega)
       simp only[Ev]at this;rw[this];congr 1;have h3:z.toList[0]? = some (.pointer none):=by simpa using hz0
       rw[DR (by simp;omega)]at h3;simpa using h3
      have hz2:(z.setIfInBounds 0 (.pointer (some ⟨b,0,none⟩))).toList= .pointer (some ⟨b,0,none⟩):: z.toList.drop 1:=by
       simp only[Array.toList_setIfInBounds];rw[hzl];rfl
      rw[hz2];rw[hzl]at j4;simp only[D4,Eo,aG,VR]at j4 |-;obtain⟨_,_,h1,_,h2⟩:=j4;obtain⟨rfl,rfl⟩:=List.cons.inj h1;exact⟨_,_,rfl,⟨(b,nb),hβ,hb0,rfl⟩,h2⟩
     ·rcases ht.cons with ht|ht
      ·cases ht
      ·exact ht.mono fun a ha=>EI _ ha
    ·obtain⟨z,j1,j2,j3,j4,j5⟩:=hhr.cells hl (by simp) hβ hb0;have hz0:z[0]? = some (.pointer (some ⟨b,0,none⟩)):=by
      have:=j4.get (i:=0) (c:=.hp l 0) rfl
      obtain⟨v,h1,h2⟩:=this;simp only[VR]at h2;obtain⟨bk,hbk,_,rfl⟩:=h2;rw[hβ]at hbk;cases hbk;rw[DJ]at h1;split at h1
      ·simpa using h1
      ·cases h1
     have hset:h.set l (.hp l 0:: r)=h:=by
      obtain⟨hlt,hk⟩:=El.1 hl;rw[<- hk];exact List.set_getElem_self hlt
     rw[hset];refine (xa b w (by rw[j2.cell];exact hz0)).mono ?_;rintro e w' ⟨rfl,rfl⟩;exact bE hw hh0 (Below.refl _ _) lR (by simp only[VR];exact⟨[],rfl,by simp[aG]⟩)
theorem mT{S:ap}{β:List a8}{e:Nat}:{cs:List AV} ->{s:List UInt8} ->{vs:List Value} ->io e cs=some s->aG S β cs vs->s.length=cs.length/\(∀(j:Nat)(x:UInt8),s[j]? = some x->vs[j]? = some (Value.int .u8 x.toNat))/\∀x∈cs,jk x=some e
 |[],s,vs,h,_=>by
  simp only[io,Dw]at h;subst h;exact⟨rfl,fun j x hx=>by simp at hx,fun x hx=>by cases hx⟩
 | c :: cs,s,vs,h,hv=>by
  simp only[io]at h;cases h1:uJ e c with
  |none=>rw[h1]at h;cases h
  | some b=>
   cases h2:io e cs with
   |none=>rw[h1,h2]at h;cases h
   | some l=>
    rw[h1,h2]at h;simp only[Dw]at h;subst h;simp only[aG]at hv;obtain⟨y,ys,rfl,hy,hv⟩:=hv;obtain⟨k1,k2,k3⟩:=mT h2 hv;unfold uJ at h1;split at h1
    ·rename_i t n;cases hc:(Nat.beq t e&&decide (0<=n)&&decide (n<256))with
     |false=>rw[hc]at h1;cases h1
     | true=>
      rw[hc]at h1;simp only[Dx,Dw]at h1;simp only[Dy,DK]at hc;obtain⟨⟨c1,c2⟩,c3⟩:=hc;have c1:=DC c1;subst c1 h1;simp only[VR]at hy;subst hy;refine⟨by simp[k1],fun j x hx=>?_,fun x hx=>?_⟩
      ·cases j with
       |zero=>
        simp only[D9,Dw]at hx |-;subst hx;congr 1;have:(UInt8.ofNat n.toNat).toNat=n.toNat % 256:=rfl;rw[this,FC (by omega)];omega
       |succ j=>exact k2 j x (by simpa using hx)
      ·rcases DX.1 hx with rfl|hx
       ·rfl
       ·exact k3 x hx
    ·cases h1
def rp{w:World}{g n:Nat}:Gro w (w.drew.freeze ⟨g,0,none⟩ n)/\(w.drew.freeze ⟨g,0,none⟩ n).heap.size=w.heap.size/\∀k,k≠g->(w.drew.freeze ⟨g,0,none⟩ n).heap[k]? = w.heap[k]?:=by
 have h1:Gro w.drew (w.drew.freeze ⟨g,0,none⟩ n)/\(w.drew.freeze ⟨g,0,none⟩ n).heap.size=w.drew.heap.size/\∀k,k≠g->(w.drew.freeze ⟨g,0,none⟩ n).heap[k]? = w.drew.heap[k]?:=by
  generalize w.drew=v;unfold World.freeze;split
  ·exact⟨Gro.refl _,rfl,fun _ _=>rfl⟩
  ·refine⟨⟨by simp,rfl,rfl,rfl,fun _=>DD _⟩,by simp,fun k hk=>?_⟩;simp only[FA];rw[if_neg (by omega)]
 exact⟨(Gro.drew w).trans h1.1,h1.2.1,h1.2.2⟩
def B3(call:FuncId->List AV->M AV)(args:List AV)(h:Hp)(S:ap)(β:List a8)(w:World)(vs:List Value)(hr:dK 5 call args h≠.fail)(hg:kJ β h w)(hw:Wf S w)(hh:bJ S β w h)(hv:aG S β args vs):
  Calls Tryz.prog 87 vs.toArray w (cF none S β h w (dK 5 call args h)):=by
 unfold dK at hr |-;cases hpo:tx args with
 |none=>rw[hpo]at hr;exact absurd rfl hr
 | some l =>
  rw[hpo]at hr
  have:=pK hpo
  subst this;simp only[aG,VR]at hv;obtain⟨_,_,rfl,⟨bk,hβ,hb0,rfl⟩,rfl⟩:=hv;obtain⟨b,nb⟩:=bk;dsimp only at hr |-;have hh0:=hh;obtain⟨hlen,ω,hhr⟩:=hh;have one:∀ {cs:List AV} {x y:AV} {r:List AV},h[l]? = some cs->cs=x:: y:: r->∃v,w.cell? ⟨b,1,none⟩=some v/\VR S β y v:=by
   rintro cs x y r hl rfl;obtain⟨z,j1,j2,j3,j4,j5⟩:=hhr.cells hl (by simp) hβ hb0;obtain⟨v,h1,h2⟩:=j4.get (i:=1) (c:=y) rfl;rw[DJ]at h1;split at h1
   ·exact⟨v,by rw[j2.cell];simpa using h1,h2⟩
   ·cases h1
  cases hl:h[l]? with
  |none=>rw[hl]at hr;exact absurd rfl hr
  | some cs0=>
   rw[hl]at hr;dsimp only at hr |-;cases hst:stA cs0 with
   |none=>rw[hst]at hr;exact absurd rfl hr
   | some q=>
    rw[hst]at hr;cases q with
    |none=>
     dsimp only;obtain⟨x,r,hx⟩:=wz hst;obtain⟨v,hc1,hv1⟩:=one hl hx;simp only[VR]at hv1;subst hv1;refine (Ak b w hc1).mono ?_;rintro e w' ⟨rfl,rfl⟩;exact bE (w':=w.drew) (r:=.str []) (v:=.string ⟨#[]⟩) hw hh0 ⟨rfl,rfl,rfl,DD _,fun _ _=>rfl⟩ lR (by simp only[VR];exact⟨_,rfl,rfl⟩)
    | some q=>
     obtain⟨lb,len⟩:=q;dsimp only at hr |-;obtain⟨x,r,hx,k1,k3⟩:=wA hst;obtain⟨v,hc1,hv1⟩:=one hl hx;cases hcs:h[lb]? with
     |none=>rw[hcs]at hr;exact absurd rfl hr
     | some cs=>
      rw[hcs]at hr;dsimp only at hr |-;cases hle:Nat.ble len cs.length with
      |false=>rw[hle]at hr;exact absurd rfl hr
      | true=>
       rw[hle]at hr;simp only[Dx]at hr |-;have k2:=FB hle;cases hb:io 5 (cs.take len)with
       |none=>rw[hb]at hr;exact absurd rfl hr
       | some s=>
        dsimp only;obtain⟨b2,cap,hβ2,hb20,rfl,hlc,hcn⟩:=hv1.hs_pos k1;obtain⟨g,ng⟩:=b2;obtain⟨z,j1,j2,j3,j4,j5⟩:=hhr.cells hcs (by rintro rfl;simp at k2;omega) hβ2 hb20;have j6:=j4.take len;rw[E1,EV k2]at j6;obtain⟨s1,s2,s3⟩:=mT hb j6;have hsl:s.length=len:=by rw[s1];simp;omega
        have hin:bD 5 cs:=by
         cases cs with
         |nil=>simp at k2;omega
         |cons c cs=>
          refine⟨c,Ew,s3 c ?_⟩;obtain⟨m,rfl⟩:∃m,len=m+1:=⟨len-1,by omega⟩;simp
        obtain⟨y,hy⟩:=hhr.tag hcs hin hβ2;cases j2.inj ⟨_,hy⟩;have hzl:cs.length<=z.size:=by have:=j4.length;simp at this;omega
        have hcell:∀(j:Nat)(x:UInt8),s[j]? = some x->z[j]? = some (Value.int .u8 x.toNat):=fun j x hx=>by
         have:=s2 j x hx
         rw[DJ]at this;split at this
         ·simpa using this
         ·cases this
        subst hsl;refine (Al b g cap z s w (by rintro rfl;simp at k1) hlc hc1 hy k3 (by omega) hcell).mono ?_;rintro e w' ⟨rfl,rfl⟩;obtain⟨f1,f2,f3⟩:=rp (w:=w) (g:=g) (n:=s.length);exact q4 hg hw hh0 hcs (by rintro rfl;rw[D3]at k2;omega) hβ2 f1 f2 f3 (by simp only[VR];exact⟨_,rfl,rfl⟩)
end Go.Proofs.YteemeakjlfnapaaGreatDoor
