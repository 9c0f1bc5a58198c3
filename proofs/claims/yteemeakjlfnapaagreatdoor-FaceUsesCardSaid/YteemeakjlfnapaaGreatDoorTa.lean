/- What the functions of the seat compute, part 1: the texts of the claim, one behind the other. Conditions: bounds, as each theorem names them. -/
import Derived.Shelf.LaysM
import Derived.Shelf.Strconv.Itoa3
import Derived.Shelf.Strings.Search3
import Derived.Shelf.Strings.Fields
import Derived.Test.YteemeakjlfnapaaGreatDoorProg
import Derived.Test.YteemeakjlfnapaaGreatDoorLc
import Derived.Shelf.Strconv.AtoiAll
import Derived.Shelf.LaysC
import Derived.Shelf.Small.Strs
import Derived.Lib.Builder
import Derived.Lib.UnsafeStr
import Derived.Shelf.RegionOpenPlain
import Derived.Laws.Externs
import Derived.Laws.IdiomCopy
import Derived.Laws.BitsLemmas
set_option linter.defProp false
set_option linter.unusedSimpArgs false
set_option linter.unusedVariables false
namespace Go.Proofs
open Go.Shelf
def He:Go.Shelf.Ren:=⟨fun|171=>153|243=>207|246=>240|283=>262|284=>263|285=>264|286=>265|129=>223|317=>278|318=>279|319=>280|320=>281|337=>285|338=>286|n=>n,fun|3=>3|9=>9|2=>2|4=>4|171=>250|0=>0|53=>214|37=>102|5=>5|173=>252|212=>278|51=>212|20=>20|213=>279|46=>175|232=>291|233=>292|n=>n,fun|17=>3|18=>6|19=>7|n=>n⟩
def Hh:Go.Proofs.LaysM.n171 Tryz.prog He:={
 mixed:=by kernel_rfl
 f129:=Tryz.func223.trans (Hs some (by kernel_rfl))
 f171:=Tryz.func153.trans (Hs some (by kernel_rfl))
 f243:=Tryz.func207.trans (Hs some (by kernel_rfl))
 f246:=Tryz.func240.trans (Hs some (by kernel_rfl))
 f283:=Tryz.func262.trans (Hs some (by kernel_rfl))
 f284:=Tryz.func263.trans (Hs some (by kernel_rfl))
 f285:=Tryz.func264.trans (Hs some (by kernel_rfl))
 f286:=Tryz.func265.trans (Hs some (by kernel_rfl))
 f317:=Tryz.func278.trans (Hs some (by kernel_rfl))
 f318:=Tryz.func279.trans (Hs some (by kernel_rfl))
 f319:=Tryz.func280.trans (Hs some (by kernel_rfl))
 f320:=Tryz.func281.trans (Hs some (by kernel_rfl))
 f337:=Tryz.func285.trans (Hs some (by kernel_rfl))
 f338:=Tryz.func286.trans (Hs some (by kernel_rfl))
 t0:=Tryz.underlying0
 a0:=Tryz.isAgg0
 z0:=Tryz.sizeOf0
 v0:=Tryz.zeroValue0
 t2:=Tryz.underlying2
 a2:=Tryz.isAgg2
 z2:=Tryz.sizeOf2
 v2:=Tryz.zeroValue2
 t3:=Tryz.underlying3
 a3:=Tryz.isAgg3
 z3:=Tryz.sizeOf3
 v3:=Tryz.zeroValue3
 t4:=Tryz.underlying4
 a4:=Tryz.isAgg4
 z4:=Tryz.sizeOf4
 v4:=Tryz.zeroValue4
 t5:=Tryz.underlying5
 a5:=Tryz.isAgg5
 z5:=Tryz.sizeOf5
 v5:=Tryz.zeroValue5
 t9:=Tryz.underlying9
 a9:=Tryz.isAgg9
 z9:=Tryz.sizeOf9
 v9:=Tryz.zeroValue9
 t20:=Tryz.underlying20
 a20:=Tryz.isAgg20
 z20:=Tryz.sizeOf20
 v20:=Tryz.zeroValue20
 t37:=Tryz.underlying102
 a37:=Tryz.isAgg102
 z37:=Tryz.sizeOf102
 v37:=Tryz.zeroValue102
 t46:=Tryz.underlying175
 a46:=Tryz.isAgg175
 z46:=Tryz.sizeOf175
 v46:=Tryz.zeroValue175
 t51:=Tryz.underlying212
 a51:=Tryz.isAgg212
 z51:=Tryz.sizeOf212
 v51:=Tryz.zeroValue212
 t53:=Tryz.underlying214
 a53:=Tryz.isAgg214
 z53:=Tryz.sizeOf214
 v53:=Tryz.zeroValue214
 t171:=Tryz.underlying250
 a171:=Tryz.isAgg250
 z171:=Tryz.sizeOf250
 v171:=Tryz.zeroValue250
 t173:=Tryz.underlying252
 a173:=Tryz.isAgg252
 z173:=Tryz.sizeOf252
 v173:=Tryz.zeroValue252
 t212:=Tryz.underlying278
 a212:=Tryz.isAgg278
 z212:=Tryz.sizeOf278
 v212:=Tryz.zeroValue278
 t213:=Tryz.underlying279
 a213:=Tryz.isAgg279
 z213:=Tryz.sizeOf279
 t232:=Tryz.underlying291
 a232:=Tryz.isAgg291
 z232:=Tryz.sizeOf291
 v232:=Tryz.zeroValue291
 t233:=Tryz.underlying292
 a233:=Tryz.isAgg292
 z233:=Tryz.sizeOf292
 v233:=Tryz.zeroValue292
 g17:=by kernel_rfl
 g18:=by kernel_rfl
 g19:=by kernel_rfl
 i0:=by kernel_rfl
 i2:=by kernel_rfl
 i3:=by kernel_rfl
 i4:=by kernel_rfl
 i5:=by kernel_rfl
 i9:=by kernel_rfl
 i20:=by kernel_rfl
 i37:=by kernel_rfl
 i46:=by kernel_rfl
 i51:=by kernel_rfl
 i53:=by kernel_rfl
 i171:=by kernel_rfl
 i173:=by kernel_rfl
 i212:=by kernel_rfl
 i232:=by kernel_rfl
 i233:=by kernel_rfl
 m17:=by kernel_rfl
 m18:=by kernel_rfl
 m19:=by kernel_rfl }
def Hf:Go.Shelf.Ren:=⟨fun|144=>147|143=>203|219=>239|217=>241|225=>259|224=>260|267=>261|266=>266|314=>277|n=>n,fun|9=>9|4=>4|3=>3|5=>5|46=>175|146=>275|51=>212|n=>n,fun|1=>2|n=>n⟩
def Hj:Go.Proofs.Lays.n144 Tryz.prog Hf:={
 mixed:=by kernel_rfl
 f143:=Tryz.func203.trans (Hs some (by kernel_rfl))
 f144:=Tryz.func147.trans (Hs some (by kernel_rfl))
 f217:=Tryz.func241.trans (Hs some (by kernel_rfl))
 f219:=Tryz.func239.trans (Hs some (by kernel_rfl))
 f224:=Tryz.func260.trans (Hs some (by kernel_rfl))
 f225:=Tryz.func259.trans (Hs some (by kernel_rfl))
 f266:=Tryz.func266.trans (Hs some (by kernel_rfl))
 f267:=Tryz.func261.trans (Hs some (by kernel_rfl))
 f314:=Tryz.func277.trans (Hs some (by kernel_rfl))
 t3:=Tryz.underlying3
 a3:=Tryz.isAgg3
 z3:=Tryz.sizeOf3
 v3:=Tryz.zeroValue3
 t4:=Tryz.underlying4
 a4:=Tryz.isAgg4
 z4:=Tryz.sizeOf4
 v4:=Tryz.zeroValue4
 t5:=Tryz.underlying5
 a5:=Tryz.isAgg5
 z5:=Tryz.sizeOf5
 v5:=Tryz.zeroValue5
 t9:=Tryz.underlying9
 a9:=Tryz.isAgg9
 z9:=Tryz.sizeOf9
 v9:=Tryz.zeroValue9
 t46:=Tryz.underlying175
 a46:=Tryz.isAgg175
 z46:=Tryz.sizeOf175
 v46:=Tryz.zeroValue175
 t51:=Tryz.underlying212
 a51:=Tryz.isAgg212
 z51:=Tryz.sizeOf212
 v51:=Tryz.zeroValue212
 t146:=Tryz.underlying275
 a146:=Tryz.isAgg275
 z146:=Tryz.sizeOf275
 v146:=Tryz.zeroValue275
 g1:=by kernel_rfl }
end Go.Proofs
namespace Go.Proofs.YteemeakjlfnapaaGreatDoor
open Go Go.Av Go.Av.Ap
abbrev CC:=FuncId->List AV->M AV
abbrev RR:=List AV->M AV
def lb{α β:Type}{m:M α}{f:α->M β}{fs:Nat->α->M β}(hf:bo f fs):aK (ae m f) fun n=>ae m (fs n):=aK.bnd (aK.const _) hf
abbrev vN(l:List Nat):List (Nat×Option Nat):=l.map fun x=>(x,none)
abbrev tF:TI:=TI.mk false 1 8 .func [] [.nilf] false
noncomputable def tab:List (Nat×TI):=[
(0,(TI.mk false 1 0 .other [] [.any] false)),
(1,tF),
(2,(TI.mk false 1 8 (.int .i64) [] [.int .i64 0] false)),
(3,(TI.mk false 1 8 (.int .i64) [] [.int .i64 0] false)),
(4,(TI.mk false 1 1 .bool [] [.bool false] false)),
(5,(TI.mk false 1 1 (.int .u8) [] [.int .u8 0] false)),
(6,(TI.mk false 1 1 (.int .u8) [] [.int .u8 0] false)),
(7,(TI.mk true 4 24 .struct [(0,((2,true))),(1,((3,true))),(2,((4,true))),(3,((6,true)))] [.int .i64 0,.int .i64 0,.bool false,.int .u8 0] true)),
(8,(TI.mk true 4 24 .struct [(0,((2,true))),(1,((3,true))),(2,((4,true))),(3,((6,true)))] [.int .i64 0,.int .i64 0,.bool false,.int .u8 0] true)),
(9,(TI.mk false 1 16 .str [] [.str []] false)),
(10,(TI.mk false 1 16 .str [] [.str []] false)),
(11,(TI.mk false 1 16 .str [] [.str []] false)),
(12,(TI.mk false 1 8 (.int .u64) [] [.int .u64 0] false)),
(13,(TI.mk true 2 24 .struct [(0,((9,true))),(1,((12,true)))] [.str [],.int .u64 0] false)),
(14,(TI.mk true 2 24 .struct [(0,((9,true))),(1,((12,true)))] [.str [],.int .u64 0] false)),
(15,(TI.mk false 1 8 .ptr [] [.nilp] false)),
(16,(TI.mk false 1 8 .ptr [] [.nilp] false)),
(17,(TI.mk false 1 8 .ptr [] [.nilp] false)),
(18,(TI.mk true 1 8 .struct [(0,((17,true)))] [.nilp] false)),
(19,(TI.mk true 1 8 .struct [(0,((17,true)))] [.nilp] false)),
(20,(TI.mk false 1 16 .iface [] [.nili] false)),
(21,(TI.mk false 1 4 (.int .i32) [] [.int .i32 0] false)),
(22,(TI.mk false 1 24 (.slice 56) [] [.sl []] false)),
(23,(TI.mk true 2 40 .struct [(0,((9,true))),(1,((22,true)))] [.str [],.sl []] true)),
(24,(TI.mk true 2 40 .struct [(0,((9,true))),(1,((22,true)))] [.str [],.sl []] true)),
(25,(TI.mk false 1 24 (.slice 76) [] [.sl []] false)),
(26,(TI.mk true 2 32 .struct [(0,((3,true))),(1,((25,true)))] [.int .i64 0,.sl []] true)),
(27,(TI.mk true 2 32 .struct [(0,((3,true))),(1,((25,true)))] [.int .i64 0,.sl []] true)),
(28,(TI.mk true 3 24 .struct [(0,((3,true))),(1,((3,true))),(2,((3,true)))] [.int .i64 0,.int .i64 0,.int .i64 0] true)),
(29,(TI.mk true 3 24 .struct [(0,((3,true))),(1,((3,true))),(2,((3,true)))] [.int .i64 0,.int .i64 0,.int .i64 0] true)),
(30,tF),
(31,tF),
(32,tF),
(33,(TI.mk false 1 0 .other [] [.any] false)),
(34,tF),
(35,(TI.mk false 1 24 (.slice 9) [] [.sl []] false)),
(36,(TI.mk false 1 24 (.slice 47) [] [.sl []] false)),
(37,(TI.mk false 1 24 (.slice 73) [] [.sl []] false)),
(38,(TI.mk true 3 72 .struct [(0,((25,true))),(1,((36,true))),(2,((36,true)))] [.sl [],.sl [],.sl []] true)),
(39,(TI.mk true 3 72 .struct [(0,((25,true))),(1,((36,true))),(2,((36,true)))] [.sl [],.sl [],.sl []] true)),
(40,(TI.mk true 9 192 .struct [(0,((9,true))),(1,((35,true))),(2,((25,true))),(3,((36,true))),(4,((37,true))),(5,((4,true))),(6,((39,true)))] [.str [],.sl [],.sl [],.sl [],.sl [],.bool false,.sl [],.sl [],.sl []] true)),
(41,(TI.mk true 9 192 .struct [(0,((9,true))),(1,((35,true))),(2,((25,true))),(3,((36,true))),(4,((37,true))),(5,((4,true))),(6,((39,true)))] [.str [],.sl [],.sl [],.sl [],.sl [],.bool false,.sl [],.sl [],.sl []] true)),
(42,(TI.mk false 1 0 .other [] [.any] false)),
(43,tF),
(44,tF),
(45,tF),
(46,(TI.mk true 6 96 .struct [(0,((3,true))),(1,((3,true))),(2,((9,true))),(3,((9,true))),(4,((35,true))),(5,((36,true)))] [.int .i64 0,.int .i64 0,.str [],.str [],.sl [],.sl []] true)),
(47,(TI.mk true 6 96 .struct [(0,((3,true))),(1,((3,true))),(2,((9,true))),(3,((9,true))),(4,((35,true))),(5,((36,true)))] [.int .i64 0,.int .i64 0,.str [],.str [],.sl [],.sl []] true)),
(48,tF),
(49,tF),
(50,tF),
(51,tF),
(52,tF),
(53,tF),
(54,(TI.mk false 1 24 (.slice 27) [] [.sl []] false)),
(55,(TI.mk true 5 80 .struct [(0,((9,true))),(1,((54,true))),(2,((27,true))),(4,((3,true)))] [.str [],.sl [],.int .i64 0,.sl [],.int .i64 0] true)),
(56,(TI.mk true 5 80 .struct [(0,((9,true))),(1,((54,true))),(2,((27,true))),(4,((3,true)))] [.str [],.sl [],.int .i64 0,.sl [],.int .i64 0] true)),
(57,tF),
(58,tF),
(59,(TI.mk false 1 8 (.int .i64) [] [.int .i64 0] false)),
(60,(TI.mk false 1 0 .other [] [.any] false)),
(61,tF),
(62,(TI.mk false 1 0 .other [] [.any] false)),
(63,tF),
(64,(TI.mk false 1 0 .other [] [.any] false)),
(65,tF),
(66,tF),
(67,tF),
(68,tF),
(69,tF),
(70,tF),
(71,tF),
(72,(TI.mk true 12 184 .struct [(0,((9,true))),(1,((4,true))),(2,((25,true))),(3,((27,true))),(5,((3,true))),(6,((47,true)))] [.str [],.bool false,.sl [],.int .i64 0,.sl [],.int .i64 0,.int .i64 0,.int .i64 0,.str [],.str [],.sl [],.sl []] true)),
(73,(TI.mk true 12 184 .struct [(0,((9,true))),(1,((4,true))),(2,((25,true))),(3,((27,true))),(5,((3,true))),(6,((47,true)))] [.str [],.bool false,.sl [],.int .i64 0,.sl [],.int .i64 0,.int .i64 0,.int .i64 0,.str [],.str [],.sl [],.sl []] true)),
(74,tF),
(75,(TI.mk true 3 48 .struct [(0,((9,true))),(1,((27,true)))] [.str [],.int .i64 0,.sl []] true)),
(76,(TI.mk true 3 48 .struct [(0,((9,true))),(1,((27,true)))] [.str [],.int .i64 0,.sl []] true)),
(77,tF),
(78,(TI.mk false 1 24 (.slice 24) [] [.sl []] false)),
(79,tF),
(80,tF),
(81,tF),
(82,(TI.mk false 1 0 .other [] [.any] false)),
(83,tF),
(84,tF),
(85,tF),
(86,tF),
(87,tF),
(88,tF),
(89,tF),
(90,tF),
(91,tF),
(92,tF),
(93,tF),
(94,tF),
(95,tF),
(96,tF),
(97,tF),
(98,tF),
(99,tF),
(100,tF),
(101,(TI.mk false 1 8 .ptr [] [.nilp] false)),
(102,(TI.mk false 1 24 (.slice 5) [] [.sl []] false)),
(103,(TI.mk true 2 32 .struct [(0,((101,true))),(1,((102,true)))] [.nilp,.sl []] true)),
(104,(TI.mk true 2 32 .struct [(0,((101,true))),(1,((102,true)))] [.nilp,.sl []] true)),
(105,(TI.mk false 1 16 .iface [] [.nili] false)),
(106,(TI.mk false 1 16 .iface [] [.nili] false)),
(107,(TI.mk false 1 0 .other [] [.any] false)),
(108,tF),
(109,tF),
(110,tF),
(111,tF),
(112,tF),
(113,tF),
(114,(TI.mk false 1 8 .ptr [] [.nilp] false)),
(115,tF),
(116,tF),
(117,tF),
(118,(TI.mk false 1 8 .ptr [] [.nilp] false)),
(119,tF),
(120,tF),
(121,tF),
(122,tF),
(123,tF),
(124,tF),
(125,tF),
(126,tF),
(127,tF),
(128,tF),
(129,tF),
(130,(TI.mk false 1 8 (.map 9 4) [] [.nilm] false)),
(131,tF),
(132,tF),
(133,tF),
(134,tF),
(135,(TI.mk false 1 8 .ptr [] [.nilp] false)),
(136,(TI.mk false 1 0 .other [] [.any] false)),
(137,tF),
(138,(TI.mk false 1 0 .other [] [.any] false)),
(139,(TI.mk false 1 8 (.map 9 24) [] [.nilm] false)),
(140,(TI.mk true 11 208 .struct [(0,((41,true))),(9,((139,true))),(10,((3,true)))] [.str [],.sl [],.sl [],.sl [],.sl [],.bool false,.sl [],.sl [],.sl [],.nilm,.int .i64 0] true)),
(141,(TI.mk true 11 208 .struct [(0,((41,true))),(9,((139,true))),(10,((3,true)))] [.str [],.sl [],.sl [],.sl [],.sl [],.bool false,.sl [],.sl [],.sl [],.nilm,.int .i64 0] true)),
(142,(TI.mk false 1 0 .other [] [.any] false)),
(143,tF),
(144,tF),
(145,tF),
(146,tF),
(147,tF),
(148,(TI.mk true 3 40 .struct [(0,((104,true))),(2,((4,true)))] [.nilp,.sl [],.bool false] true)),
(149,(TI.mk true 3 40 .struct [(0,((104,true))),(2,((4,true)))] [.nilp,.sl [],.bool false] true)),
(150,tF),
(151,tF),
(152,tF),
(153,tF),
(154,tF),
(155,tF),
(156,tF),
(157,tF),
(158,tF),
(159,tF),
(160,tF),
(161,(TI.mk false 1 8 .ptr [] [.nilp] false)),
(162,(TI.mk true 2 24 .struct [(0,((9,true))),(1,((4,true)))] [.str [],.bool false] true)),
(163,(TI.mk true 2 24 .struct [(0,((9,true))),(1,((4,true)))] [.str [],.bool false] true)),
(164,tF),
(165,tF),
(166,(TI.mk true 2 24 .struct [(0,((9,true))),(1,((4,true)))] [.str [],.bool false] true)),
(167,(TI.mk true 2 24 .struct [(0,((9,true))),(1,((4,true)))] [.str [],.bool false] true)),
(168,tF),
(169,tF),
(170,tF),
(171,tF),
(172,tF),
(173,tF),
(174,tF),
(175,(TI.mk false 1 8 (.int .u64) [] [.int .u64 0] false)),
(176,tF),
(177,tF),
(178,tF),
(179,tF),
(180,(TI.mk false 1 0 .other [] [.any] false)),
(181,tF),
(182,(TI.mk false 1 0 .other [] [.any] false)),
(183,tF),
(184,tF),
(185,tF),
(186,tF),
(187,(TI.mk false 1 8 .ptr [] [.nilp] false)),
(188,tF),
(189,tF),
(190,tF),
(191,tF),
(192,tF),
(193,tF),
(194,tF),
(195,tF),
(196,(TI.mk false 1 24 (.slice 3) [] [.sl []] false)),
(197,tF),
(198,(TI.mk false 1 8 .other [] [.nilp] false)),
(199,tF),
(200,tF),
(201,(TI.mk false 1 0 .other [] [.any] false)),
(202,tF),
(203,tF),
(204,(TI.mk false 1 8 (.int .i64) [] [.int .i64 0] false)),
(205,(TI.mk false 1 0 .other [] [.any] false)),
(206,tF),
(207,tF),
(208,tF),
(209,(TI.mk false 1 0 .other [] [.any] false)),
(210,tF),
(211,tF),
(212,(TI.mk false 1 4 (.int .u32) [] [.int .u32 0] false)),
(213,tF),
(214,(TI.mk false 1 8 (.int .u64) [] [.int .u64 0] false)),
(215,(TI.mk false 1 0 .other [] [.any] false)),
(216,tF),
(217,tF),
(218,tF),
(219,tF),
(220,tF),
(221,tF),
(222,(TI.mk false 1 24 (.slice 225) [] [.sl []] false)),
(223,tF),
(224,(TI.mk true 3 32 .struct [(0,((9,true))),(1,((3,true))),(2,((3,true)))] [.str [],.int .i64 0,.int .i64 0] true)),
(225,(TI.mk true 3 32 .struct [(0,((9,true))),(1,((3,true))),(2,((3,true)))] [.str [],.int .i64 0,.int .i64 0] true)),
(226,tF),
(227,tF),
(228,(TI.mk true 256 256 (.array 256 5) [] [.int .u8 0,.int .u8 0,.int .u8 0,.int .u8 0,.int .u8 0,.int .u8 0,.int .u8 0,.int .u8 0,.int .u8 0,.int .u8 0,.int .u8 0,.int .u8 0,.int .u8 0,.int .u8 0,.int .u8 0,.int .u8 0,.int .u8 0,.int .u8 0,.int .u8 0,.int .u8 0,.int .u8 0,.int .u8 0,.int .u8 0,.int .u8 0,.int .u8 0,.int .u8 0,.int .u8 0,.int .u8 0,.int .u8 0,.int .u8 0,.int .u8 0,.int .u8 0,.int .u8 0,.int .u8 0,.int .u8 0,.int .u8 0,.int .u8 0,.int .u8 0,.int .u8 0,.int .u8 0,.int .u8 0,.int .u8 0,.int .u8 0,.int .u8 0,.int .u8 0,.int .u8 0,.int .u8 0,.int .u8 0,.int .u8 0,.int .u8 0,.int .u8 0,.int .u8 0,.int .u8 0,.int .u8 0,.int .u8 0,.int .u8 0,.int .u8 0,.int .u8 0,.int .u8 0,.int .u8 0,.int .u8 0,.int .u8 0,.int .u8 0,.int .u8 0,.int .u8 0,.int .u8 0,.int .u8 0,.int .u8 0,.int .u8 0,.int .u8 0,.int .u8 0,.int .u8 0,.int .u8 0,.int .u8 0,.int .u8 0,.int .u8 0,.int .u8 0,.int .u8 0,.int .u8 0,.int .u8 0,.int .u8 0,.int .u8 0,.int .u8 0,.int .u8 0,.int .u8 0,.int .u8 0,.int .u8 0,.int .u8 0,.int .u8 0,.int .u8 0,.int .u8 0,.int .u8 0,.int .u8 0,.int .u8 0,.int .u8 0,.int .u8 0,.int .u8 0,.int .u8 0,.int .u8 0,.int .u8 0,.int .u8 0,.int .u8 0,.int .u8 0,.int .u8 0,.int .u8 0,.int .u8 0,.int .u8 0,.int .u8 0,.int .u8 0,.int .u8 0,.int .u8 0,.int .u8 0,.int .u8 0,.int .u8 0,.int .u8 0,.int .u8 0,.int .u8 0,.int .u8 0,.int .u8 0,.int .u8 0,.int .u8 0,.int .u8 0,.int .u8 0,.int .u8 0,.int .u8 0,.int .u8 0,.int .u8 0,.int .u8 0,.int .u8 0,.int .u8 0,.int .u8 0,.int .u8 0,.int .u8 0,.int .u8 0,.int .u8 0,.int .u8 0,.int .u8 0,.int .u8 0,.int .u8 0,.int .u8 0,.int .u8 0,.int .u8 0,.int .u8 0,.int .u8 0,.int .u8 0,.int .u8 0,.int .u8 0,.int .u8 0,.int .u8 0,.int .u8 0,.int .u8 0,.int .u8 0,.int .u8 0,.int .u8 0,.int .u8 0,.int .u8 0,.int .u8 0,.int .u8 0,.int .u8 0,.int .u8 0,.int .u8 0,.int .u8 0,.int .u8 0,.int .u8 0,.int .u8 0,.int .u8 0,.int .u8 0,.int .u8 0,.int .u8 0,.int .u8 0,.int .u8 0,.int .u8 0,.int .u8 0,.int .u8 0,.int .u8 0,.int .u8 0,.int .u8 0,.int .u8 0,.int .u8 0,.int .u8 0,.int .u8 0,.int .u8 0,.int .u8 0,.int .u8 0,.int .u8 0,.int .u8 0,.int .u8 0,.int .u8 0,.int .u8 0,.int .u8 0,.int .u8 0,.int .u8 0,.int .u8 0,.int .u8 0,.int .u8 0,.int .u8 0,.int .u8 0,.int .u8 0,.int .u8 0,.int .u8 0,.int .u8 0,.int .u8 0,.int .u8 0,.int .u8 0,.int .u8 0,.int .u8 0,.int .u8 0,.int .u8 0,.int .u8 0,.int .u8 0,.int .u8 0,.int .u8 0,.int .u8 0,.int .u8 0,.int .u8 0,.int .u8 0,.int .u8 0,.int .u8 0,.int .u8 0,.int .u8 0,.int .u8 0,.int .u8 0,.int .u8 0,.int .u8 0,.int .u8 0,.int .u8 0,.int .u8 0,.int .u8 0,.int .u8 0,.int .u8 0,.int .u8 0,.int .u8 0,.int .u8 0,.int .u8 0,.int .u8 0,.int .u8 0,.int .u8 0,.int .u8 0,.int .u8 0,.int .u8 0,.int .u8 0,.int .u8 0,.int .u8 0,.int .u8 0,.int .u8 0,.int .u8 0,.int .u8 0,.int .u8 0,.int .u8 0,.int .u8 0,.int .u8 0,.int .u8 0,.int .u8 0,.int .u8 0,.int .u8 0,.int .u8 0] false)),
(229,tF),
(230,tF),
(231,tF),
(232,tF),
(233,tF),
(234,(TI.mk false 1 8 (.int .u64) [] [.int .u64 0] false)),
(235,tF),
(236,tF),
(237,tF),
(238,(TI.mk false 1 8 .ptr [] [.nilp] false)),
(239,tF),
(240,tF),
(241,tF),
(242,tF),
(243,tF),
(244,(TI.mk false 1 24 (.slice 246) [] [.sl []] false)),
(245,(TI.mk true 2 16 .struct [(0,((3,true))),(1,((3,true)))] [.int .i64 0,.int .i64 0] true)),
(246,(TI.mk true 2 16 .struct [(0,((3,true))),(1,((3,true)))] [.int .i64 0,.int .i64 0] true)),
(247,tF),
(248,(TI.mk false 1 8 .ptr [] [.nilp] false)),
(249,tF),
(250,(TI.mk true 24 24 (.array 24 5) [] [.int .u8 0,.int .u8 0,.int .u8 0,.int .u8 0,.int .u8 0,.int .u8 0,.int .u8 0,.int .u8 0,.int .u8 0,.int .u8 0,.int .u8 0,.int .u8 0,.int .u8 0,.int .u8 0,.int .u8 0,.int .u8 0,.int .u8 0,.int .u8 0,.int .u8 0,.int .u8 0,.int .u8 0,.int .u8 0,.int .u8 0,.int .u8 0] false)),
(251,tF),
(252,(TI.mk false 1 0 .other [] [.any] false)),
(253,tF),
(254,(TI.mk false 1 8 (.int .i64) [] [.int .i64 0] false)),
(255,(TI.mk false 1 0 .other [] [.any] false)),
(256,tF),
(257,(TI.mk false 1 8 .ptr [] [.nilp] false)),
(258,tF),
(259,tF),
(260,(TI.mk false 1 8 .ptr [] [.nilp] false)),
(261,(TI.mk false 1 0 .other [] [.any] false)),
(262,tF),
(263,tF),
(264,(TI.mk false 1 24 (.slice 270) [] [.sl []] false)),
(265,(TI.mk false 1 24 (.slice 273) [] [.sl []] false)),
(266,(TI.mk true 3 56 .struct [(0,((264,true))),(1,((265,true))),(2,((3,true)))] [.sl [],.sl [],.int .i64 0] true)),
(267,(TI.mk true 3 56 .struct [(0,((264,true))),(1,((265,true))),(2,((3,true)))] [.sl [],.sl [],.int .i64 0] true)),
(268,(TI.mk false 1 2 (.int .u16) [] [.int .u16 0] false)),
(269,(TI.mk true 3 6 .struct [(0,((268,true))),(1,((268,true))),(2,((268,true)))] [.int .u16 0,.int .u16 0,.int .u16 0] true)),
(270,(TI.mk true 3 6 .struct [(0,((268,true))),(1,((268,true))),(2,((268,true)))] [.int .u16 0,.int .u16 0,.int .u16 0] true)),
(271,tF),
(272,(TI.mk true 3 12 .struct [(0,((212,true))),(1,((212,true))),(2,((212,true)))] [.int .u32 0,.int .u32 0,.int .u32 0] true)),
(273,(TI.mk true 3 12 .struct [(0,((212,true))),(1,((212,true))),(2,((212,true)))] [.int .u32 0,.int .u32 0,.int .u32 0] true)),
(274,tF),
(275,(TI.mk false 1 0 .other [] [.any] false)),
(276,tF),
(277,tF),
(278,(TI.mk true 20 160 (.array 20 214) [] [.int .u64 0,.int .u64 0,.int .u64 0,.int .u64 0,.int .u64 0,.int .u64 0,.int .u64 0,.int .u64 0,.int .u64 0,.int .u64 0,.int .u64 0,.int .u64 0,.int .u64 0,.int .u64 0,.int .u64 0,.int .u64 0,.int .u64 0,.int .u64 0,.int .u64 0,.int .u64 0] false)),
(279,(TI.mk true 65 65 (.array 65 5) [] [.int .u8 0,.int .u8 0,.int .u8 0,.int .u8 0,.int .u8 0,.int .u8 0,.int .u8 0,.int .u8 0,.int .u8 0,.int .u8 0,.int .u8 0,.int .u8 0,.int .u8 0,.int .u8 0,.int .u8 0,.int .u8 0,.int .u8 0,.int .u8 0,.int .u8 0,.int .u8 0,.int .u8 0,.int .u8 0,.int .u8 0,.int .u8 0,.int .u8 0,.int .u8 0,.int .u8 0,.int .u8 0,.int .u8 0,.int .u8 0,.int .u8 0,.int .u8 0,.int .u8 0,.int .u8 0,.int .u8 0,.int .u8 0,.int .u8 0,.int .u8 0,.int .u8 0,.int .u8 0,.int .u8 0,.int .u8 0,.int .u8 0,.int .u8 0,.int .u8 0,.int .u8 0,.int .u8 0,.int .u8 0,.int .u8 0,.int .u8 0,.int .u8 0,.int .u8 0,.int .u8 0,.int .u8 0,.int .u8 0,.int .u8 0,.int .u8 0,.int .u8 0,.int .u8 0,.int .u8 0,.int .u8 0,.int .u8 0,.int .u8 0,.int .u8 0,.int .u8 0] false)),
(280,(TI.mk false 1 0 .other [] [.any] false)),
(281,tF),
(282,(TI.mk true 3 48 .struct [(0,((9,true))),(1,((9,true))),(2,((106,true)))] [.str [],.str [],.nili] false)),
(283,(TI.mk true 3 48 .struct [(0,((9,true))),(1,((9,true))),(2,((106,true)))] [.str [],.str [],.nili] false)),
(284,tF),
(285,(TI.mk false 1 8 .ptr [] [.nilp] false)),
(286,(TI.mk false 1 8 .ptr [] [.nilp] false)),
(287,tF),
(288,(TI.mk false 1 8 .ptr [] [.nilp] false)),
(289,(TI.mk true 1 16 .struct [(0,((9,true)))] [.str []] true)),
(290,(TI.mk true 1 16 .struct [(0,((9,true)))] [.str []] true)),
(291,(TI.mk true 32 32 (.array 32 5) [] [.int .u8 0,.int .u8 0,.int .u8 0,.int .u8 0,.int .u8 0,.int .u8 0,.int .u8 0,.int .u8 0,.int .u8 0,.int .u8 0,.int .u8 0,.int .u8 0,.int .u8 0,.int .u8 0,.int .u8 0,.int .u8 0,.int .u8 0,.int .u8 0,.int .u8 0,.int .u8 0,.int .u8 0,.int .u8 0,.int .u8 0,.int .u8 0,.int .u8 0,.int .u8 0,.int .u8 0,.int .u8 0,.int .u8 0,.int .u8 0,.int .u8 0,.int .u8 0] false)),
(292,(TI.mk true 64 64 (.array 64 5) [] [.int .u8 0,.int .u8 0,.int .u8 0,.int .u8 0,.int .u8 0,.int .u8 0,.int .u8 0,.int .u8 0,.int .u8 0,.int .u8 0,.int .u8 0,.int .u8 0,.int .u8 0,.int .u8 0,.int .u8 0,.int .u8 0,.int .u8 0,.int .u8 0,.int .u8 0,.int .u8 0,.int .u8 0,.int .u8 0,.int .u8 0,.int .u8 0,.int .u8 0,.int .u8 0,.int .u8 0,.int .u8 0,.int .u8 0,.int .u8 0,.int .u8 0,.int .u8 0,.int .u8 0,.int .u8 0,.int .u8 0,.int .u8 0,.int .u8 0,.int .u8 0,.int .u8 0,.int .u8 0,.int .u8 0,.int .u8 0,.int .u8 0,.int .u8 0,.int .u8 0,.int .u8 0,.int .u8 0,.int .u8 0,.int .u8 0,.int .u8 0,.int .u8 0,.int .u8 0,.int .u8 0,.int .u8 0,.int .u8 0,.int .u8 0,.int .u8 0,.int .u8 0,.int .u8 0,.int .u8 0,.int .u8 0,.int .u8 0,.int .u8 0,.int .u8 0] false)),
(293,(TI.mk true 4 40 .struct [(0,((17,true))),(1,((17,true))),(2,((17,true))),(3,((9,true)))] [.nilp,.nilp,.nilp,.str []] false)),
(294,(TI.mk true 4 40 .struct [(0,((17,true))),(1,((17,true))),(2,((17,true))),(3,((9,true)))] [.nilp,.nilp,.nilp,.str []] false)),
(295,(TI.mk true 0 0 (.array 0 16) [] [] false)),
(296,(TI.mk true 0 0 .struct [(0,((295,false)))] [] false)),
(297,(TI.mk true 0 0 .struct [(0,((295,false)))] [] false)),
(298,(TI.mk false 1 1 (.int .u8) [] [.int .u8 0] false)),
(299,(TI.mk false 1 1 (.int .u8) [] [.int .u8 0] false)),
(300,tF),
(301,(TI.mk false 1 4 (.int .i32) [] [.int .i32 0] false)),
(302,(TI.mk false 1 4 (.int .i32) [] [.int .i32 0] false)),
(303,(TI.mk true 11 48 .struct [(0,((12,true))),(1,((12,true))),(2,((212,true))),(3,((298,true))),(4,((5,true))),(5,((5,true))),(6,((299,true))),(7,((300,true))),(8,((161,true))),(9,((301,true))),(10,((302,true)))] [.int .u64 0,.int .u64 0,.int .u32 0,.int .u8 0,.int .u8 0,.int .u8 0,.int .u8 0,.nilf,.nilp,.int .i32 0,.int .i32 0] false)),
(304,(TI.mk true 11 48 .struct [(0,((12,true))),(1,((12,true))),(2,((212,true))),(3,((298,true))),(4,((5,true))),(5,((5,true))),(6,((299,true))),(7,((300,true))),(8,((161,true))),(9,((301,true))),(10,((302,true)))] [.int .u64 0,.int .u64 0,.int .u32 0,.int .u8 0,.int .u8 0,.int .u8 0,.int .u8 0,.nilf,.nilp,.int .i32 0,.int .i32 0] false))]
def uV:List (Nat×TI)->Nat->Option TI
 |[],_=>none
 |(k,x):: r,t=>bif Nat.beq k t then some x else uV r t
noncomputable def T:TT:=uV tab
def BC:Ann:={kinds:=[(5,.L),(6,.L),(7,.L),(13,.S),(14,.S),(17,.S)],no:=[68,70,72,78,80,91,93],nl:=[35,61,75,82,88,95,103,113,114],lw:=[13,14,17,65,66,67],loops:=[(0,{vals:=vN [3,9,11,12,6000,6001,6002,6003,6004,7000,7001,7002,7003,7004,8000,8001,8002,8003,8004],locs:=[(5,6000,0),(6,7000,0),(7,8000,0)],lbs:=[(6000,5),(7000,5),(8000,5)]})]}
def Ep:Ann:={kinds:=[(4,.S)],nl:=[6,11,16,22,23,31,36,38],lw:=[4],loops:=[(0,{vals:=vN [1,16,17,18]})]}
def yt:Ann:={kinds:=[(1,.S),(2,.S),(5,.S),(7,.S),(9,.S),(11,.S),(12,.S),(13,.S)],no:=[16,21,44,46,48,50],nl:=[23,26,35,40,64,65,69,81,86,87,91,92,97,104],lw:=[1,2,5,7,9,11,12,13]}
def BD:Ann:={nl:=[6,16,19,23,28],loops:=[(0,{vals:=vN [1,3]})]}
def Er:Ann:={kinds:=[(4,.B),(6,.S),(8,.S)],nl:=[9,13,16,22,27,29,32,38,43,44,48,51],lw:=[6,8],loops:=[(0,{vals:=vN [4,22,23,24]}),(2,{vals:=vN [4,6,22,23,24,38,39,40]})]}
def Es:Ann:={hb:=[5,7,15,36],no:=[59,71],lw:=[2,5,7,61,64,67,73],loops:=[(0,{vals:=[(0,none),(4,none),(6,none),(3000,none),(3001,none),(6000,none),(6001,some 5)],locs:=[(2,3000,0),(5,6000,0)],lbs:=[(3000,2),(6000,2)]}),(2,{vals:=[(0,none),(4,none),(6,none),(8,none),(3000,none),(3001,none),(6000,none),(6001,some 5),(8000,none),(8001,some 2),(8002,none),(8003,none),(8004,none)],locs:=[(2,3000,0),(5,6000,0),(7,8000,0)],lbs:=[(3000,2),(6000,2),(8000,5)]})],nils:=[(5,[1]),(7,[1])]}
def BE:Ann:={kinds:=[(9,.S)],hl:=[37],nl:=[11,18,21,37,41],lw:=[4,7,9,28,29],loops:=[(0,{vals:=vN [31,32,33,5000,5001,5002,5003,5004,8000,8001,8002,8003,8004],locs:=[(4,5000,0),(7,8000,0)],lbs:=[(5000,5),(8000,5)]})],ords:=[(5,[0,1,3,4,2,6,5,7,8,9])]}
def Et:Ann:={kinds:=[(5,.S),(8,.S)],ha:=[54],hb:=[6,15,33],no:=[46,53],nl:=[9,14,17,22,24,27,29,32,35,40,44],lw:=[2,3,5,6,8,48,55],loops:=[(0,{vals:=vN [17,18,19,3000,3001,4000,4001],locs:=[(2,3000,0),(3,4000,0)],lbs:=[(3000,2),(4000,2)]}),(2,{vals:=[(17,none),(18,none),(19,none),(35,none),(36,none),(37,none),(3000,none),(3001,none),(4000,none),(4001,none),(7000,none),(7001,some 2),(7002,none),(7003,none),(7004,none)],locs:=[(2,3000,0),(3,4000,0),(6,7000,0)],lbs:=[(3000,2),(4000,2),(7000,5)]})],ords:=[(8,[0,1,2,3,5,6,8,4,7,9])],nils:=[(6,[1])]}
def BF:Ann:={nl:=[6,8,12,14,19,21]}
def Eu:Ann:={nl:=[6,8,12,14]}
def BG:Ann:={nl:=[3]}
def BH:Ann:={kinds:=[(8,.S)],nl:=[13,18,32,37,40,44,50,56,62,68,74,77,82,88,94,100,102,109,112,115,121,126,133],lw:=[8],joins:=[(116,{vals:=vN [1,9,10]})],loops:=[(0,{vals:=vN [1,3,13,14,15]}),(2,{vals:=vN [1,6,32,33,34]})]}
def BI:Ann:={nl:=[3]}
def BJ:Ann:={nl:=[3]}
def BK:Ann:={kinds:=[(14,.S)],hl:=[55],nl:=[20,25,31,42,50,55],lw:=[8,14]}
def BL:Ann:={nl:=[6,12,15,18],loops:=[(0,{vals:=vN [1,3]})]}
def BM:Ann:={nl:=[5,8,12,13]}
def BN:Ann:={nl:=[3]}
def BO:Ann:={}
def BP:Ann:={nl:=[4,9,15,21,26]}
def Ew:Ann:={hb:=[3,5],no:=[19],nl:=[17],lw:=[2,3,21],loops:=[(0,{vals:=[(0,none),(4,none),(3000,none),(3001,none),(4000,none),(4001,some 3)],locs:=[(2,3000,0),(3,4000,0)],lbs:=[(3000,2),(4000,2)]})],nils:=[(3,[1])]}
def Ex:Ann:={iso:=false,hl:=[12],ha:=[14],hb:=[14],nl:=[12]}
def Ey:Ann:={}
def Ez:Ann:={}
def EA:Ann:={iso:=false,kinds:=[(5,.S)],nl:=[8,12,16,21,26,29,34],lw:=[5],loops:=[(0,{vals:=vN [0,21,22,23]})]}
def EB:Ann:={iso:=false,kinds:=[(5,.H)],hb:=[4]}
def EC:Ann:={iso:=false,hl:=[11,19,26,36],nl:=[11,19,26,36]}
def ED:Ann:={iso:=false}
def EF:Ann:={iso:=false,hl:=[6],nl:=[6]}
def EG:Ann:={iso:=false,hb:=[5,10],no:=[48],lw:=[4,5,7,44,50],loops:=[(0,{vals:=[(0,none),(1,none),(6,none),(5000,none),(5001,none),(6000,none),(6001,some 3)],locs:=[(4,5000,0),(5,6000,0)],lbs:=[(5000,2),(6000,2)]})],nils:=[(5,[1])]}
def xz:Ann:={nl:=[15],loops:=[(0,{vals:=vN [0,1,7,8]})]}
def xA:Ann:={nl:=[5,6]}
def pY:Ann:={iso:=false,ha:=[7]}
def tn:Ann:={kinds:=[(1,.L),(4,.S)],nl:=[16,21],lw:=[2,4,8],loops:=[(0,{vals:=vN [10,11,12,2000,2001,3000,3001],locs:=[(1,2000,0),(2,3000,0)],lbs:=[(2000,2),(3000,2)]})]}
def tq:Ann:={nl:=[6,8]}
def tr:Ann:={}
def xB:Ann:={kinds:=[(8,.S),(9,.S)],nl:=[21,25,27,28],lw:=[8,9],loops:=[(0,{vals:=vN [1,2,15,16,17]})]}
def Cw:Ann:={kinds:=[(8,.S),(9,.S)],nl:=[21,25,27,28],lw:=[8,9],loops:=[(0,{vals:=vN [1,2,15,16,17]})]}
def Cy:Ann:={nl:=[6,8,12,14,19,21,26,28]}
def Cz:Ann:={nl:=[6,8,12,14]}
def xC:Ann:={kinds:=[(6,.S)],nl:=[11,16,21,27,31,37,43,45,53,55,60,66],lw:=[6],loops:=[(0,{vals:=vN [1,2,37,38,39]})]}
def xD:Ann:={kinds:=[(7,.S)],nl:=[14,17,21,27,33],lw:=[7],loops:=[(0,{vals:=vN [0,1,5,9,10,11]})]}
def xE:Ann:={nl:=[3]}
def xF:Ann:={kinds:=[(6,.S)],nl:=[12,13],lw:=[6],loops:=[(0,{vals:=vN [0,1,7,8,9]})]}
def CB:Ann:={kinds:=[(8,.S),(9,.S)],nl:=[21,25,27,28],lw:=[8,9],loops:=[(0,{vals:=vN [1,2,15,16,17]})]}
def xG:Ann:={iso:=false,kinds:=[(8,.S),(10,.S),(11,.S),(16,.H)],hl:=[44,55],hb:=[15],nl:=[13,22,24,29,31,36,44,46,55,57,58],lw:=[8,10,11],loops:=[(0,{vals:=vN [6,17,18,19]}),(2,{vals:=vN [6,8,17,18,19,24,25,26]})]}
def xH:Ann:={iso:=false,kinds:=[(8,.S),(10,.S)],hl:=[95],no:=[51],nl:=[15,21,26,34,36,48,49,54,56,65,73,81,90,95,97,101],lw:=[6,8,10],joins:=[(60,{vals:=vN [0,1,5,15,60,7000,7001],locs:=[(6,7000,0)],lbs:=[(7000,2)]}),(91,{vals:=vN [5,12,7000,7001],locs:=[(6,7000,0)],lbs:=[(7000,2)]})],ords:=[(11,[0,1,3,4,5,6,7,9,10,11,12,2,8,13,14,15,16,17])]}
def xI:Ann:={nl:=[6,8,12]}
def xJ:Ann:={nl:=[13,21,33,36],loops:=[(0,{vals:=vN [1,2,3,7,8]})]}
def xK:Ann:={nl:=[15,27,31],loops:=[(0,{vals:=vN [1,2,3,7,8]})]}
def xL:Ann:={}
def xM:Ann:={nl:=[4]}
def xN:Ann:={kinds:=[(5,.S)],hb:=[3,8],no:=[24],nl:=[7,10,15,19,21],lw:=[2,3,5,26],loops:=[(0,{vals:=[(10,none),(11,none),(12,none),(3000,none),(3001,none),(4000,none),(4001,some 3)],locs:=[(2,3000,0),(3,4000,0)],lbs:=[(3000,2),(4000,2)]})],nils:=[(3,[1])]}
def xO:Ann:={}
def xP:Ann:={}
def xQ:Ann:={nl:=[3]}
def CE:Ann:={}
def CF:Ann:={iso:=false,hl:=[14,18,57],nl:=[14,18,57],ords:=[(7,[0,1,2,3,5,6,7,4,8,9,10,11,12,13,14])]}
def CG:Ann:={iso:=false}
def CH:Ann:={iso:=false,hl:=[10],nl:=[10]}
def gS:Ann:={}
def tt:Ann:={}
def CI:Ann:={nl:=[6,8,12,14]}
def xR:Ann:={kinds:=[(5,.S),(8,.S)],nl:=[13,18,22,31,37,39,44,46,51,53,58,61,66,71,76,77],lw:=[5,8],loops:=[(0,{vals:=vN [1,71,72,73]})]}
def xS:Ann:={nl:=[3]}
def xT:Ann:={iso:=false,kinds:=[(8,.S),(10,.S)],hl:=[17],nl:=[17,19,27,33,35,45,46,50],lw:=[6,8,10],joins:=[(28,{vals:=vN [8,7000,7001],locs:=[(6,7000,0)],lbs:=[(7000,2)]})],ords:=[(1,[0,1,2,3,4,5,6,11,7,8,9,10,12,13])]}
def xU:Ann:={iso:=false,kinds:=[(8,.S),(13,.S)],hl:=[63],nl:=[16,24,27,35,49,50,52,55,63,65,70],lw:=[6,8,13],loops:=[(0,{vals:=vN [0,8,43,44,45,7000,7001],locs:=[(6,7000,0)],lbs:=[(7000,2)]})]}
def xV:Ann:={iso:=false,kinds:=[(10,.S),(11,.S)],no:=[31],nl:=[18,22,30],lw:=[10,11],loops:=[(0,{vals:=[(0,none),(1,none),(8,some 2),(13,none),(14,none),(15,none)]})]}
def xW:Ann:={kinds:=[(7,.H),(10,.S)],hl:=[77,104],ha:=[86],hb:=[7,12],no:=[85],nl:=[14,49,51,52,54,60,63,69,75,77,79,82,83,92,95,97,104],lw:=[4,10],joins:=[(15,{vals:=vN [2,3,6,7,8,14,15,5000,5001],locs:=[(4,5000,0)],lbs:=[(5000,2)]}),(39,{vals:=vN [2,3,6,7,8,14,39,5000,5001],locs:=[(4,5000,0)],lbs:=[(5000,2)]}),(1000000,{vals:=vN [7,8,5000,5001],locs:=[(4,5000,0)],lbs:=[(5000,2)]})],loops:=[(1,{vals:=vN [2,7,8,69,70,71,5000,5001],locs:=[(4,5000,0)],lbs:=[(5000,2)]})]}
def xX:Ann:={kinds:=[(4,.S)],nl:=[8,10,17,19],lw:=[4]}
def xY:Ann:={nl:=[15],loops:=[(0,{vals:=vN [0,1,7,8]})]}
def xZ:Ann:={}
def ya:Ann:={loops:=[(0,{vals:=vN [0,1,5]})]}
def yb:Ann:={}
def yc:Ann:={}
def yd:Ann:={nl:=[15],loops:=[(0,{vals:=vN [0,1,7,8]})]}
def CJ:Ann:={}
def ye:Ann:={nl:=[6,8,11,16,23,30,36,45,54,58,63,65],lw:=[2,4,17,24,31,37,46,55,66,67],joins:=[(12,{vals:=vN [1,11,12,3000,3001,3002,3003,3004,3005,5000,5001,5002,5003,5004,5005],locs:=[(2,3000,0),(4,5000,0)],lbs:=[(3000,6),(5000,6)]}),(19,{vals:=vN [1,11,19,3000,3001,3002,3003,3004,3005,5000,5001,5002,5003,5004,5005],locs:=[(2,3000,0),(4,5000,0)],lbs:=[(3000,6),(5000,6)]}),(26,{vals:=vN [1,11,26,3000,3001,3002,3003,3004,3005,5000,5001,5002,5003,5004,5005],locs:=[(2,3000,0),(4,5000,0)],lbs:=[(3000,6),(5000,6)]})]}
def yf:Ann:={nl:=[6,10,14,20,24,30,34,39,44,54,59,63,67,73,80,86,96,100,106],joins:=[(47,{vals:=vN [1,6,47]})],loops:=[(1,{vals:=vN [1,80,81,82]})]}
def yg:Ann:={iso:=false,kinds:=[(7,.S),(10,.S),(11,.S)],hl:=[21,31,60,81],hb:=[8,39],no:=[51],nl:=[15,21,31,34,36,38,41,46,50,60,62,67,81,83,89,92],lw:=[4,7,8,10,11,53],loops:=[(0,{vals:=[(41,none),(42,none),(43,none),(5000,none),(5001,none),(5002,none),(5003,none),(5004,none),(9000,none),(9001,some 2),(9002,none),(9003,none),(9004,none)],locs:=[(4,5000,0),(8,9000,0)],lbs:=[(5000,5),(9000,5)]})],nils:=[(8,[1])]}
def yh:Ann:={nl:=[4]}
def yj:Ann:={nl:=[5,6]}
def yk:Ann:={kinds:=[(8,.S),(9,.S),(11,.S)],hb:=[6,21],no:=[52],nl:=[14,16,20,23,28,31,33,40,41,49,50],lw:=[4,6,8,9,11,54],loops:=[(0,{vals:=[(3,none),(23,none),(24,none),(25,none),(5000,none),(5001,none),(7000,none),(7001,some 3)],locs:=[(4,5000,0),(6,7000,0)],lbs:=[(5000,2),(7000,2)]})],nils:=[(6,[1])]}
def ym:Ann:={nl:=[15],loops:=[(0,{vals:=vN [0,1,7,8]})]}
def CK:Ann:={}
def yn:Ann:={nl:=[15],loops:=[(0,{vals:=vN [0,1,7,8]})]}
def yo:Ann:={nl:=[5,7]}
def yp:Ann:={nl:=[5,7]}
def yq:Ann:={}
def CL:Ann:={}
noncomputable def kL:List (Nat×(Func×Ann)):=[
(13,(Tryz.f13,BC)),
(27,(Tryz.f27,Ep)),
(29,(Tryz.f29,yt)),
(32,(Tryz.f32,BD)),
(33,(Tryz.f33,Er)),
(35,(Tryz.f35,Es)),
(37,(Tryz.f37,BE)),
(42,(Tryz.f42,Et)),
(44,(Tryz.f44,BF)),
(46,(Tryz.f46,Eu)),
(47,(Tryz.f47,BG)),
(48,(Tryz.f48,BH)),
(52,(Tryz.f52,BI)),
(53,(Tryz.f53,BJ)),
(54,(Tryz.f54,BK)),
(55,(Tryz.f55,BL)),
(56,(Tryz.f56,BM)),
(73,(Tryz.f73,BN)),
(76,(Tryz.f76,BO)),
(77,(Tryz.f77,BP)),
(80,(Tryz.f80,Ew)),
(83,(Tryz.f83,Ex)),
(84,(Tryz.f84,Ey)),
(85,(Tryz.f85,Ez)),
(86,(Tryz.f86,EA)),
(91,(Tryz.f91,EB)),
(92,(Tryz.f92,EC)),
(93,(Tryz.f93,ED)),
(94,(Tryz.f94,EF)),
(95,(Tryz.f95,EG)),
(101,(Tryz.f101,xz)),
(102,(Tryz.f102,xA)),
(108,(Tryz.f108,tq)),
(109,(Tryz.f109,tr)),
(111,(Tryz.f111,xB)),
(113,(Tryz.f113,Cw)),
(114,(Tryz.f114,Cy)),
(115,(Tryz.f115,Cz)),
(116,(Tryz.f116,xC)),
(117,(Tryz.f117,xD)),
(118,(Tryz.f118,xE)),
(119,(Tryz.f119,xF)),
(120,(Tryz.f120,CB)),
(122,(Tryz.f122,xG)),
(124,(Tryz.f124,xH)),
(125,(Tryz.f125,xI)),
(129,(Tryz.f129,xJ)),
(130,(Tryz.f130,xK)),
(131,(Tryz.f131,xL)),
(132,(Tryz.f132,xM)),
(133,(Tryz.f133,xN)),
(146,(Tryz.f146,xO)),
(148,(Tryz.f148,xP)),
(149,(Tryz.f149,xQ)),
(154,(Tryz.f154,CE)),
(157,(Tryz.f157,CF)),
(158,(Tryz.f158,CG)),
(159,(Tryz.f159,CH)),
(169,(Tryz.f169,tt)),
(177,(Tryz.f177,CI)),
(178,(Tryz.f178,xR)),
(179,(Tryz.f179,xS)),
(182,(Tryz.f182,xT)),
(183,(Tryz.f183,xU)),
(184,(Tryz.f184,xV)),
(185,(Tryz.f185,xW)),
(186,(Tryz.f186,xX)),
(189,(Tryz.f189,xY)),
(199,(Tryz.f199,xZ)),
(200,(Tryz.f200,ya)),
(201,(Tryz.f201,yb)),
(202,(Tryz.f202,yc)),
(204,(Tryz.f204,yd)),
(210,(Tryz.f210,CJ)),
(226,(Tryz.f226,ye)),
(227,(Tryz.f227,yf)),
(229,(Tryz.f229,yg)),
(230,(Tryz.f230,yh)),
(231,(Tryz.f231,yj)),
(232,(Tryz.f232,yk)),
(238,(Tryz.f238,ym)),
(244,(Tryz.f244,CK)),
(253,(Tryz.f253,yn)),
(254,(Tryz.f254,yo)),
(255,(Tryz.f255,yp)),
(256,(Tryz.f256,yq)),
(272,(Tryz.f272,CL))]
def o7:List (Nat×(Func×Ann))->Nat->Option (Func×Ann)
 |[],_=>none
 |(k,x):: r,t=>bif Nat.beq k t then some x else o7 r t
def own:FuncId->Option Nat:=fun f=>bif Nat.beq f 163 then some 3 else none
noncomputable def other:FuncId->Option ((FuncId->List AV->M AV)->List AV->M AV):=fun f=>
 bif Nat.beq f 87 then some (eA 5)else bif Nat.beq f 103 then some (cX T 54)else bif Nat.beq f 104 then some (jc)else bif Nat.beq f 107 then some (f8 5 108)else bif Nat.beq f 147 then some (gF)else bif Nat.beq f 152 then some (gY [(104,2),(149,3)])else bif Nat.beq f 153 then some (ve)else bif Nat.beq f 163 then some (gX T 25)else bif Nat.beq f 181 then some (je)else bif Nat.beq f 208 then some (g8)else bif Nat.beq f 209 then some (uM 257)else none
noncomputable def pg:Pg:={ T:=T,funcs:=o7 kL,own:=own,other:=other,nw:=fun f=>bif Nat.beq f 103 then true else false }
def hOther:cQ pg:=by
 intro f E hE call calls hc;have h0:other f=some E:=hE;unfold other at h0;rcases cO h0 with rfl|h0
 ·exact bo.const _
 rcases cO h0 with rfl|h0
 ·exact mT _ _ _ _
 rcases cO h0 with rfl|h0
 ·exact bo.const _
 rcases cO h0 with rfl|h0
 ·exact bo.const _
 rcases cO h0 with rfl|h0
 ·exact bo.const _
 rcases cO h0 with rfl|h0
 ·exact bo.const _
 rcases cO h0 with rfl|h0
 ·exact bo.const _
 rcases cO h0 with rfl|h0
 ·exact tK _ _ _ _
 rcases cO h0 with rfl|h0
 ·exact bo.const _
 rcases cO h0 with rfl|h0
 ·exact bo.const _
 rcases cO h0 with rfl|h0
 ·exact bo.const _
 cases h0
end Go.Proofs.YteemeakjlfnapaaGreatDoor
namespace Go.Proofs.YteemeakjlfnapaaGreatDoor
open Go Go.Av
set_option maxRecDepth 1000000
instance dr0:Dr:=⟨False⟩
def nH{p:Prop}(h:Dr.on):p:=False.elim h
def DJ:(tab.map fun x=>DK Tryz.prog x.1)=tab.map fun x=>some x.2:=by kernel_rfl
theorem o9:(l:List (Nat×TI))->(t:Nat)->(ti:TI)->uV l t=some ti->(t,ti)∈l
 |[],t,ti,h=>by cases h
 | (k,x):: r,t,ti,h=>by
  simp only[uV]at h;cases hk:Nat.beq k t with
  |true=>
   rw[hk]at h;simp only[Hr,Ho]at h
   have:=Hv hk
   subst this h;exact Ic
  |false=>
   rw[hk]at h;exact Ij _ (o9 r t ti h)
theorem eZ{α β:Type}{f g:α->β}:{l:List α} ->l.map f=l.map g->∀x∈l,f x=g x
 |[],_,x,hx=>by cases hx
 |a:: l,h,x,hx=>by
  simp only[H3,JB]at h;rcases HO.1 hx with rfl|hx
  ·exact h.1
  ·exact eZ h.2 x hx
def tok:TOK Tryz.prog T:=⟨fun t ti h=>eZ DJ (t,ti) (o9 tab t ti h),by kernel_rfl⟩
def qQ:(kL.map fun x=>Tryz.prog.funcs[x.1]?)=kL.map fun x=>some x.2.1:=by kernel_rfl
def jU:(kL.map fun x=>x.2.1.name== "runtime.NumGoroutine")=kL.map fun _=>false:=by kernel_rfl
theorem lc:(l:List (Nat×(Func×Ann)))->(t:Nat)->(x:Func×Ann)->o7 l t=some x->(t,x)∈l
 |[],t,ti,h=>by cases h
 | (k,x):: r,t,ti,h=>by
  simp only[o7]at h;cases hk:Nat.beq k t with
  |true=>
   rw[hk]at h;simp only[Hr,Ho]at h
   have:=Hv hk
   subst this h;exact Ic
  |false=>
   rw[hk]at h;exact Ij _ (lc r t ti h)
def rV:∀f fn a,pg.funcs f=some (fn,a)->Tryz.prog.funcs[f]? = some fn/\(fn.name== "runtime.NumGoroutine")=false:=by
 intro f fn a h
 have:=lc kL f (fn,a) h
 exact⟨eZ qQ _ this,eZ jU _ this⟩
end Go.Proofs.YteemeakjlfnapaaGreatDoor
namespace Go.Proofs.YteemeakjlfnapaaGreatDoor
open Go Go.Av Go.RowKit
set_option maxRecDepth 100000
def below_grow(w:World)(k:Nat)(os:Array Obj):Below w.heap.size w (Go.Sort.grow (w.drewN k) os):=by
 refine (show Below w.heap.size w (w.drewN k)from⟨rfl,rfl,rfl,Hu _,fun _ _=>rfl⟩).trans ⟨rfl,rfl,rfl,?_,fun b hb=>?_⟩
 ·simp[Go.Sort.grow]
 ·have hb':b<(w.drewN k).heap.size:=hb;show ((w.drewN k).heap++os)[b]? = _;rw[IR hb']
def Br{w:World}(h:GOKw w):Lib.TabIs Tryz.prog w "internal/strconv.uint64pow10" .u64 Lib.pow10Tab:=by
 obtain⟨t,fr,hp⟩:=h.pow
 have hn:Tryz.prog.globalNamed "internal/strconv.uint64pow10" = some 3:=by kernel_rfl
 unfold Lib.TabIs World.var?;rw[hn];simp only[I9,hp]
def Du(call:FuncId->List AV->M AV)(args:List AV)(h:Hp)(S:ar)(β:List bj)(w:World)(vs:List Value)(hr:ve call args h≠.fail)(hg:mm β h w)(hw:Wf S w)(hh:cf S β w h)(hv:aN S β args vs):
  Calls Tryz.prog 153 vs.toArray w (dc none S β h w (ve call args h)):=by
 unfold ve at hr |-;split at hr
 ·rename_i n;simp only[aN,VR]at hv;obtain⟨v,r,rfl,rfl,rfl⟩:=hv;cases hc:(decide (-9223372036854775808<=n)&&decide (n<=9223372036854775807))with
  |false=>rw[hc]at hr;exact absurd rfl hr
  |true=>
   simp only[Hq,Hy]at hc;simp only[Hr];refine (Any.strconv_Itoa Hh n hc.1 hc.2 w (Br hg.1)).mono ?_;rintro e w' ⟨rfl,k,os,rfl⟩;exact ci hw hh (below_grow w k os) nH (by simp only[VR];exact⟨_,rfl,by rw[zj hc.1 hc.2]⟩)
 ·exact absurd rfl hr
def mw{S:ar}{β:List bj}{s:List UInt8}{r:List Value}{l:List AV}(hv:aN S β (.str s:: l) r):∃x r',r= .string x:: r'/\x.data.toList=s/\aN S β l r':=by
 simp only[aN,VR]at hv;obtain⟨v,r',rfl,⟨x,rfl,hx⟩,h⟩:=hv;exact⟨x,r',rfl,hx,h⟩
def Ds(call:FuncId->List AV->M AV)(args:List AV)(h:Hp)(S:ar)(β:List bj)(w:World)(vs:List Value)(hr:gF call args h≠.fail)(hg:mm β h w)(hw:Wf S w)(hh:cf S β w h)(hv:aN S β args vs):
  Calls Tryz.prog 147 vs.toArray w (dc none S β h w (gF call args h)):=by
 unfold gF at hr |-;split at hr
 ·rename_i s t;obtain⟨x,r,rfl,hx,hv⟩:=mw hv;obtain⟨y,r,rfl,hy,hv⟩:=mw hv;simp only[aN]at hv;subst hv;cases hc:decide (s.length<4294967281)with
  |false=>rw[hc]at hr;exact absurd rfl hr
  |true=>
   simp only[Hr];have hlen:x.size=s.length:=by rw[<- hx,Io];rfl
   obtain⟨m,hm⟩:=hg.1.max;refine (Any.strings_Contains Hj x y m w (by have:=Jg hc;omega) hm).mono ?_;rintro e w' ⟨rfl,rfl⟩;exact ci hw hh (Below.refl _ _) nH (by simp only[VR];rw[hx,hy])
 ·exact absurd rfl hr
end Go.Proofs.YteemeakjlfnapaaGreatDoor
namespace Go.Proofs
open Go.Shelf
def Hc:Go.Shelf.Ren:=⟨fun|6=>107|15=>168|14=>167|28=>222|29=>223|20=>214|21=>215|22=>216|23=>217|24=>218|25=>219|26=>220|27=>221|46=>246|47=>247|48=>248|49=>249|50=>250|57=>273|n=>n,fun|22=>22|24=>56|25=>126|3=>3|39=>175|0=>0|53=>212|55=>214|4=>4|46=>205|45=>204|50=>209|5=>5|9=>9|66=>234|70=>238|76=>260|77=>261|n=>n,fun|n=>n⟩
def G8:Go.Proofs.SlLaysF0.n6 Tryz.prog Hc:={
 mixed:=by kernel_rfl
 f6:=⟨Tryz.f107.name,by decide,Tryz.func107.trans (Hs some (by kernel_rfl))⟩
 f14:=⟨Tryz.f167.name,by decide,Tryz.func167.trans (Hs some (by kernel_rfl))⟩
 f15:=Tryz.func168.trans (Hs some (by kernel_rfl))
 f20:=⟨Tryz.f214.name,by decide,Tryz.func214.trans (Hs some (by kernel_rfl))⟩
 f21:=⟨Tryz.f215.name,by decide,Tryz.func215.trans (Hs some (by kernel_rfl))⟩
 f22:=⟨Tryz.f216.name,by decide,Tryz.func216.trans (Hs some (by kernel_rfl))⟩
 f23:=⟨Tryz.f217.name,by decide,Tryz.func217.trans (Hs some (by kernel_rfl))⟩
 f24:=⟨Tryz.f218.name,by decide,Tryz.func218.trans (Hs some (by kernel_rfl))⟩
 f25:=⟨Tryz.f219.name,by decide,Tryz.func219.trans (Hs some (by kernel_rfl))⟩
 f26:=⟨Tryz.f220.name,by decide,Tryz.func220.trans (Hs some (by kernel_rfl))⟩
 f27:=⟨Tryz.f221.name,by decide,Tryz.func221.trans (Hs some (by kernel_rfl))⟩
 f28:=Tryz.func222.trans (Hs some (by kernel_rfl))
 f29:=Tryz.func223.trans (Hs some (by kernel_rfl))
 f46:=⟨Tryz.f246.name,by decide,Tryz.func246.trans (Hs some (by kernel_rfl))⟩
 f47:=Tryz.func247.trans (Hs some (by kernel_rfl))
 f48:=Tryz.func248.trans (Hs some (by kernel_rfl))
 f49:=⟨Tryz.f249.name,by decide,Tryz.func249.trans (Hs some (by kernel_rfl))⟩
 f50:=⟨Tryz.f250.name,by decide,Tryz.func250.trans (Hs some (by kernel_rfl))⟩
 f57:=⟨Tryz.f273.name,by decide,Tryz.func273.trans (Hs some (by kernel_rfl))⟩
 t0:=Tryz.underlying0
 a0:=Tryz.isAgg0
 z0:=Tryz.sizeOf0
 v0:=Tryz.zeroValue0
 t3:=Tryz.underlying3
 a3:=Tryz.isAgg3
 z3:=Tryz.sizeOf3
 v3:=Tryz.zeroValue3
 t4:=Tryz.underlying4
 a4:=Tryz.isAgg4
 z4:=Tryz.sizeOf4
 v4:=Tryz.zeroValue4
 t5:=Tryz.underlying5
 a5:=Tryz.isAgg5
 z5:=Tryz.sizeOf5
 v5:=Tryz.zeroValue5
 t9:=Tryz.underlying9
 a9:=Tryz.isAgg9
 z9:=Tryz.sizeOf9
 v9:=Tryz.zeroValue9
 t22:=Tryz.underlying22
 a22:=Tryz.isAgg22
 z22:=Tryz.sizeOf22
 v22:=Tryz.zeroValue22
 t25:=Tryz.underlying126
 a25:=Tryz.isAgg126
 z25:=Tryz.sizeOf126
 v25:=Tryz.zeroValue126
 t39:=Tryz.underlying175
 a39:=Tryz.isAgg175
 z39:=Tryz.sizeOf175
 v39:=Tryz.zeroValue175
 t45:=Tryz.underlying204
 a45:=Tryz.isAgg204
 z45:=Tryz.sizeOf204
 v45:=Tryz.zeroValue204
 t46:=Tryz.underlying205
 a46:=Tryz.isAgg205
 z46:=Tryz.sizeOf205
 v46:=Tryz.zeroValue205
 t50:=Tryz.underlying209
 a50:=Tryz.isAgg209
 z50:=Tryz.sizeOf209
 v50:=Tryz.zeroValue209
 t53:=Tryz.underlying212
 a53:=Tryz.isAgg212
 z53:=Tryz.sizeOf212
 v53:=Tryz.zeroValue212
 t55:=Tryz.underlying214
 a55:=Tryz.isAgg214
 z55:=Tryz.sizeOf214
 v55:=Tryz.zeroValue214
 t66:=Tryz.underlying234
 a66:=Tryz.isAgg234
 z66:=Tryz.sizeOf234
 v66:=Tryz.zeroValue234
 t70:=Tryz.underlying238
 a70:=Tryz.isAgg238
 z70:=Tryz.sizeOf238
 v70:=Tryz.zeroValue238
 t76:=Tryz.underlying260
 a76:=Tryz.isAgg260
 z76:=Tryz.sizeOf260
 v76:=Tryz.zeroValue260
 t77:=Tryz.underlying261
 a77:=Tryz.isAgg261
 z77:=Tryz.sizeOf261
 v77:=Tryz.zeroValue261 }
def Hd:Go.Shelf.Ren:=⟨fun|172=>209|244=>242|245=>243|247=>267|279=>268|280=>269|281=>270|282=>271|287=>282|316=>283|171=>153|205=>284|321=>287|322=>288|243=>207|246=>240|283=>262|284=>263|285=>264|286=>265|129=>223|317=>278|318=>279|319=>280|320=>281|337=>285|338=>286|n=>n,fun|9=>9|3=>3|75=>106|76=>107|4=>4|5=>5|167=>254|37=>102|0=>0|85=>255|2=>2|168=>257|53=>214|175=>280|46=>175|210=>283|127=>161|145=>290|143=>288|21=>21|171=>250|173=>252|212=>278|51=>212|20=>20|213=>279|232=>291|233=>292|80=>112|n=>n,fun|15=>4|16=>5|17=>3|18=>6|19=>7|n=>n⟩
def G9:Go.Proofs.LaysC.n172 Tryz.prog Hd:={
 mixed:=by kernel_rfl
 f129:=Tryz.func223.trans (Hs some (by kernel_rfl))
 f171:=Tryz.func153.trans (Hs some (by kernel_rfl))
 f172:=Tryz.func209.trans (Hs some (by kernel_rfl))
 f205:=Tryz.func284.trans (Hs some (by kernel_rfl))
 f243:=Tryz.func207.trans (Hs some (by kernel_rfl))
 f244:=Tryz.func242.trans (Hs some (by kernel_rfl))
 f245:=Tryz.func243.trans (Hs some (by kernel_rfl))
 f246:=Tryz.func240.trans (Hs some (by kernel_rfl))
 f247:=Tryz.func267.trans (Hs some (by kernel_rfl))
 f279:=Tryz.func268.trans (Hs some (by kernel_rfl))
 f280:=Tryz.func269.trans (Hs some (by kernel_rfl))
 f281:=Tryz.func270.trans (Hs some (by kernel_rfl))
 f282:=Tryz.func271.trans (Hs some (by kernel_rfl))
 f283:=Tryz.func262.trans (Hs some (by kernel_rfl))
 f284:=Tryz.func263.trans (Hs some (by kernel_rfl))
 f285:=Tryz.func264.trans (Hs some (by kernel_rfl))
 f286:=Tryz.func265.trans (Hs some (by kernel_rfl))
 f287:=Tryz.func282.trans (Hs some (by kernel_rfl))
 f316:=Tryz.func283.trans (Hs some (by kernel_rfl))
 f317:=Tryz.func278.trans (Hs some (by kernel_rfl))
 f318:=Tryz.func279.trans (Hs some (by kernel_rfl))
 f319:=Tryz.func280.trans (Hs some (by kernel_rfl))
 f320:=Tryz.func281.trans (Hs some (by kernel_rfl))
 f321:=Tryz.func287.trans (Hs some (by kernel_rfl))
 f322:=Tryz.func288.trans (Hs some (by kernel_rfl))
 f337:=Tryz.func285.trans (Hs some (by kernel_rfl))
 f338:=Tryz.func286.trans (Hs some (by kernel_rfl))
 t0:=Tryz.underlying0
 a0:=Tryz.isAgg0
 z0:=Tryz.sizeOf0
 v0:=Tryz.zeroValue0
 t2:=Tryz.underlying2
 a2:=Tryz.isAgg2
 z2:=Tryz.sizeOf2
 v2:=Tryz.zeroValue2
 t3:=Tryz.underlying3
 a3:=Tryz.isAgg3
 z3:=Tryz.sizeOf3
 v3:=Tryz.zeroValue3
 t4:=Tryz.underlying4
 a4:=Tryz.isAgg4
 z4:=Tryz.sizeOf4
 v4:=Tryz.zeroValue4
 t5:=Tryz.underlying5
 a5:=Tryz.isAgg5
 z5:=Tryz.sizeOf5
 v5:=Tryz.zeroValue5
 t9:=Tryz.underlying9
 a9:=Tryz.isAgg9
 z9:=Tryz.sizeOf9
 v9:=Tryz.zeroValue9
 t20:=Tryz.underlying20
 a20:=Tryz.isAgg20
 z20:=Tryz.sizeOf20
 v20:=Tryz.zeroValue20
 t21:=Tryz.underlying21
 a21:=Tryz.isAgg21
 z21:=Tryz.sizeOf21
 v21:=Tryz.zeroValue21
 t37:=Tryz.underlying102
 a37:=Tryz.isAgg102
 z37:=Tryz.sizeOf102
 v37:=Tryz.zeroValue102
 t46:=Tryz.underlying175
 a46:=Tryz.isAgg175
 z46:=Tryz.sizeOf175
 v46:=Tryz.zeroValue175
 t51:=Tryz.underlying212
 a51:=Tryz.isAgg212
 z51:=Tryz.sizeOf212
 v51:=Tryz.zeroValue212
 t53:=Tryz.underlying214
 a53:=Tryz.isAgg214
 z53:=Tryz.sizeOf214
 v53:=Tryz.zeroValue214
 t75:=Tryz.underlying106
 a75:=Tryz.isAgg106
 z75:=Tryz.sizeOf106
 v75:=Tryz.zeroValue106
 t76:=Tryz.underlying107
 a76:=Tryz.isAgg107
 z76:=Tryz.sizeOf107
 v76:=Tryz.zeroValue107
 t85:=Tryz.underlying255
 a85:=Tryz.isAgg255
 z85:=Tryz.sizeOf255
 v85:=Tryz.zeroValue255
 t127:=Tryz.underlying161
 a127:=Tryz.isAgg161
 z127:=Tryz.sizeOf161
 v127:=Tryz.zeroValue161
 t143:=Tryz.underlying288
 a143:=Tryz.isAgg288
 z143:=Tryz.sizeOf288
 v143:=Tryz.zeroValue288
 t145:=Tryz.underlying290
 a145:=Tryz.isAgg290
 z145:=Tryz.sizeOf290
 v145:=Tryz.zeroValue290
 t167:=Tryz.underlying254
 a167:=Tryz.isAgg254
 z167:=Tryz.sizeOf254
 v167:=Tryz.zeroValue254
 t168:=Tryz.underlying257
 a168:=Tryz.isAgg257
 z168:=Tryz.sizeOf257
 v168:=Tryz.zeroValue257
 t171:=Tryz.underlying250
 a171:=Tryz.isAgg250
 z171:=Tryz.sizeOf250
 v171:=Tryz.zeroValue250
 t173:=Tryz.underlying252
 a173:=Tryz.isAgg252
 z173:=Tryz.sizeOf252
 v173:=Tryz.zeroValue252
 t175:=Tryz.underlying280
 a175:=Tryz.isAgg280
 z175:=Tryz.sizeOf280
 v175:=Tryz.zeroValue280
 t210:=Tryz.underlying283
 a210:=Tryz.isAgg283
 z210:=Tryz.sizeOf283
 v210:=Tryz.zeroValue283
 t212:=Tryz.underlying278
 a212:=Tryz.isAgg278
 z212:=Tryz.sizeOf278
 v212:=Tryz.zeroValue278
 t213:=Tryz.underlying279
 a213:=Tryz.isAgg279
 z213:=Tryz.sizeOf279
 t232:=Tryz.underlying291
 a232:=Tryz.isAgg291
 z232:=Tryz.sizeOf291
 v232:=Tryz.zeroValue291
 t233:=Tryz.underlying292
 a233:=Tryz.isAgg292
 z233:=Tryz.sizeOf292
 v233:=Tryz.zeroValue292
 g15:=by kernel_rfl
 g16:=by kernel_rfl
 g17:=by kernel_rfl
 g18:=by kernel_rfl
 g19:=by kernel_rfl
 t80:=Tryz.underlying112
 a80:=Tryz.isAgg112
 z80:=Tryz.sizeOf112
 v80:=Tryz.zeroValue112
 i0:=by kernel_rfl
 i2:=by kernel_rfl
 i3:=by kernel_rfl
 i4:=by kernel_rfl
 i5:=by kernel_rfl
 i9:=by kernel_rfl
 i20:=by kernel_rfl
 i21:=by kernel_rfl
 i37:=by kernel_rfl
 i46:=by kernel_rfl
 i51:=by kernel_rfl
 i53:=by kernel_rfl
 i75:=by kernel_rfl
 i76:=by kernel_rfl
 i80:=by kernel_rfl
 i85:=by kernel_rfl
 i127:=by kernel_rfl
 i143:=by kernel_rfl
 i145:=by kernel_rfl
 i167:=by kernel_rfl
 i168:=by kernel_rfl
 i171:=by kernel_rfl
 i173:=by kernel_rfl
 i175:=by kernel_rfl
 i210:=by kernel_rfl
 i212:=by kernel_rfl
 i232:=by kernel_rfl
 i233:=by kernel_rfl
 m15:=by kernel_rfl
 m16:=by kernel_rfl
 m17:=by kernel_rfl
 m18:=by kernel_rfl
 m19:=by kernel_rfl
 c0:=by kernel_rfl
 c2:=by kernel_rfl
 c3:=by kernel_rfl
 c4:=by kernel_rfl
 c5:=by kernel_rfl
 c9:=by kernel_rfl
 c20:=by kernel_rfl
 c21:=by kernel_rfl
 c37:=by kernel_rfl
 c46:=by kernel_rfl
 c51:=by kernel_rfl
 c53:=by kernel_rfl
 c75:=by kernel_rfl
 c76:=by kernel_rfl
 c80:=by kernel_rfl
 c85:=by kernel_rfl
 c127:=by kernel_rfl
 c143:=by kernel_rfl
 c145:=by kernel_rfl
 c167:=by kernel_rfl
 c168:=by kernel_rfl
 c171:=by kernel_rfl
 c173:=by kernel_rfl
 c175:=by kernel_rfl
 c210:=by kernel_rfl
 c212:=by kernel_rfl
 c213:=by kernel_rfl
 c232:=by kernel_rfl
 c233:=by kernel_rfl }
def Hg:Go.Shelf.Ren:=⟨fun|137=>208|217=>241|266=>266|n=>n,fun|9=>9|5=>5|3=>3|n=>n,fun|n=>n⟩
def Hi:Go.Proofs.Lays.n137 Tryz.prog Hg:={
 mixed:=by kernel_rfl
 f137:=Tryz.func208.trans (Hs some (by kernel_rfl))
 f217:=Tryz.func241.trans (Hs some (by kernel_rfl))
 f266:=Tryz.func266.trans (Hs some (by kernel_rfl))
 t3:=Tryz.underlying3
 a3:=Tryz.isAgg3
 z3:=Tryz.sizeOf3
 v3:=Tryz.zeroValue3
 t5:=Tryz.underlying5
 a5:=Tryz.isAgg5
 z5:=Tryz.sizeOf5
 v5:=Tryz.zeroValue5
 t9:=Tryz.underlying9
 a9:=Tryz.isAgg9
 z9:=Tryz.sizeOf9
 v9:=Tryz.zeroValue9 }
end Go.Proofs
namespace Go.Proofs.YteemeakjlfnapaaGreatDoor
open Go Go.Av Go.RowKit
set_option maxRecDepth 100000
def Dx(call:FuncId->List AV->M AV)(args:List AV)(h:Hp)(S:ar)(β:List bj)(w:World)(vs:List Value)(hr:uM 257 call args h≠.fail)(hg:mm β h w)(hw:Wf S w)(hh:cf S β w h)(hv:aN S β args vs):
  Calls Tryz.prog 209 vs.toArray w (dc none S β h w (uM 257 call args h)):=by
 unfold uM at hr |-;split at hr
 ·rename_i s;obtain⟨x,r,rfl,hx,hv⟩:=mw hv;simp only[aN]at hv;subst hv;cases hc:decide (s.length<=281474976710656)with
  |false=>rw[hc]at hr;exact absurd rfl hr
  | true=>
   simp only[Hr];have hlen:x.size=s.length:=by rw[<- hx,Io];rfl
   have hlim:=Jg hc;subst hx;cases ha:Lib.atoiAll x.data.toList with
   |ok v=>
    refine (Any.strconv_Atoi_ok G9 x (by omega) v ha w).mono ?_;rintro e w' ⟨rfl,hW⟩;refine ci hw hh ?_ nH (by simp only[uN,ha,VR,aN];exact⟨[_,_],rfl,_,_,rfl,rfl,_,_,rfl,rfl,rfl⟩);rcases hW with rfl|⟨t,rfl⟩
    ·exact Below.refl _ _
    ·exact Lib.bytesWorld_below _ _ _
   |range=>
    obtain⟨t,p,hs⟩:=hg.1.rng;refine (Any.strconv_Atoi_range G9 x (by omega) ha _ w hs (.inr ⟨t,p,rfl⟩)).mono ?_;rintro e w' ⟨N,rfl,_,_,hb⟩;exact ci hw hh hb nH (by simp only[uN,ha,VR,aN];exact⟨[_,_],rfl,_,_,rfl,rfl,_,_,rfl,⟨_,rfl,trivial⟩,rfl⟩)
   |_=>
    obtain⟨t,p,hs⟩:=hg.1.syn;refine (Any.strconv_Atoi_syntax G9 x (by omega) ha _ w hs (.inr ⟨t,p,rfl⟩)).mono ?_;rintro e w' ⟨N,rfl,_,_,hb⟩;exact ci hw hh hb nH (by simp only[uN,ha,VR,aN];exact⟨[_,_],rfl,_,_,rfl,rfl,_,_,rfl,⟨_,rfl,trivial⟩,rfl⟩)
 ·exact absurd rfl hr
def Dw(call:FuncId->List AV->M AV)(args:List AV)(h:Hp)(S:ar)(β:List bj)(w:World)(vs:List Value)(hr:g8 call args h≠.fail)(_hg:mm β h w)(hw:Wf S w)(hh:cf S β w h)(hv:aN S β args vs):
  Calls Tryz.prog 208 vs.toArray w (dc none S β h w (g8 call args h)):=by
 unfold g8 at hr |-;split at hr
 ·rename_i s n;obtain⟨x,r,rfl,hx,hv⟩:=mw hv;simp only[aN,VR]at hv;obtain⟨_,_,rfl,rfl,rfl⟩:=hv;refine (Any.strings_IndexByte Hi x n w).mono ?_;rintro e w' ⟨rfl,rfl⟩;exact ci hw hh (Below.refl _ _) nH (by simp only[VR];rw[hx])
 ·exact absurd rfl hr
def BQ:∃j,Tryz.prog.info? 104=some j/\j.size=2:=by
 have h:(Tryz.prog.info? 104).map (·.size)=some 2:=by kernel_rfl
 obtain⟨j,h1,h2⟩:=Iz.1 h;exact⟨j,h1,h2⟩
set_option maxHeartbeats 1000000 in
def AC(b:Nat)(w:World)(h0:w.cell? ⟨b,0,none⟩=some (.pointer (some ⟨b,0,none⟩))):
  Calls Tryz.prog 152 #[.pointer (some ⟨b,0,none⟩)] w fun e w'=>e= .returned (.tuple #[])/\w'=w:=by
 obtain⟨j,hj,_⟩:=BQ
 go_enter Tryz.func152,Tryz.ntmps152
 go_wp2
 rw[Lib.run_neq_ptr_same w _ Tryz.underlying101 hj]
 go_wp2
 go_end0
 exact⟨rfl,rfl⟩
set_option maxHeartbeats 1000000 in
def yF(b T n:Nat)(w:World)(h0:w.cell? ⟨b,0,none⟩=some (.pointer none))(hsh:w.shape? b=some (T,n))(hn:0<n)(hfz:w.frozen? ⟨b,0,none⟩=false)(hlies:liesAt Tryz.prog Tryz.prog.depth T (n / Tryz.prog.cellsOf T) 0 104 1=true):
  Calls Tryz.prog 152 #[.pointer (some ⟨b,0,none⟩)] w fun e w'=>e= .returned (.tuple #[])/\w'=w.setCell ⟨b,0,none⟩ (.pointer (some ⟨b,0,none⟩)):=by
 obtain⟨j,hj,hjs⟩:=BQ
 go_enter Tryz.func152,Tryz.ntmps152
 go_wp2
 rw[Lib.run_to_unsafe w ⟨b,0,none⟩ Tryz.underlying101 Tryz.underlying198 hj (by rw[hjs];decide) hsh hn];simp only[Result.andThen];rw[Oper.upon_value]
 go_wp2
 rw[run_callFunc_extern Tryz.func206 (by kernel_rfl) (by kernel_rfl) (by kernel_rfl) (e:=Extern.AbiNoEscape.same) (by kernel_rfl)];rw[Lib.run_noEscape];simp only[Result.andThen];rw[Oper.upon_value]
 go_wp2
 rw[Lib.run_from_unsafe w ⟨b,0,none⟩ Tryz.underlying198 Tryz.underlying101 hj hsh hlies];simp only[Result.andThen];rw[Oper.upon_value]
 go_wp2
 go_end0
 exact⟨rfl,rfl⟩
def wm:Tryz.prog.cellsOf 5=1:=by kernel_rfl
set_option maxHeartbeats 2000000 in
def DI(b g cap:Nat)(cur:Array Value)(l:List UInt8)(w:World)(h0:l≠[])(hlt:l.length<=cap)(hc1:w.cell? ⟨b,1,none⟩=some (.slice (some ⟨g,0,none⟩) l.length cap))(hg:w.heap[g]? = some (.cells cur 5 (0,0)))(hcm:l.length<=140737488355328)(hsz:l.length<=cur.size)(hcells:∀(j:Nat)(x:UInt8),l[j]? = some x->cur[j]? = some (Value.int .u8 x.toNat)):
  Calls Tryz.prog 87 #[.pointer (some ⟨b,0,none⟩)] w fun e w'=>e= .returned (.string ⟨l.toArray⟩)/\w'=w.drew.freeze ⟨g,0,none⟩ l.length:=by
 have hl0:l.length≠0:=by simpa using h0
 have c1:w.drew.cell? ⟨b,1,none⟩=some (.slice (some ⟨g,0,none⟩) l.length cap):=hc1;have hSD:(Builtin.unsafeSliceData_ #[102] 161 #[.slice (some ⟨g,0,none⟩) l.length cap]).run Tryz.prog w.drew= .ok (.pointer (some ⟨g,0,none⟩)) w.drew:=
  Lib.run_unsafeSliceData_row _ _ _ _ _ _ (by omega)
 have hUS:(Builtin.unsafeString_ #[161,3] 9 #[.pointer (some ⟨g,0,none⟩),.int .i64 l.length]).run Tryz.prog w.drew= .ok (.string ⟨l.toArray⟩) (w.drew.freeze ⟨g,0,none⟩ l.length):=by
  refine Lib.run_unsafeString_row w.drew 161 3 9 5 Tryz.underlying161 wm g cur.size (by have hg':w.drew.heap[g]? = some (.cells cur 5 (0,0)):=hg;simp[World.shape?,hg']) l h0 hsz (by omega) ?_;intro j x hx;have hg':w.drew.heap[g]? = some (.cells cur 5 (0,0)):=hg;rw[addr_add,HJ,cell_of_row _ _ _ _ _ _ hg'];exact hcells j x hx
 go_enter Tryz.func87,Tryz.ntmps87
 go_wp2
 have mixed:Tryz.prog.follows Departure.mixedOrders=true:=by kernel_rfl
 go_region_o
 all_goals (go_wp2;go_ret;exact⟨rfl,rfl⟩)
set_option maxHeartbeats 2000000 in
theorem DG(b:Nat)(w:World)(hc1:w.cell? ⟨b,1,none⟩=some (.slice none 0 0)):
  Calls Tryz.prog 87 #[.pointer (some ⟨b,0,none⟩)] w fun e w'=>e= .returned (.string ⟨#[]⟩)/\w'=w.drew:=by
 have hUS:=fun W q=>Lib.run_unsafeString_none (P:=Tryz.prog) W 161 3 9 q;have c1:w.drew.cell? ⟨b,1,none⟩=some (.slice none 0 0):=hc1;have hSD:(Builtin.unsafeSliceData_ #[102] 161 #[.slice none 0 0]).run Tryz.prog w.drew= .ok (.pointer none) w.drew:=rfl
 go_enter Tryz.func87,Tryz.ntmps87
 go_wp2
 have mixed:Tryz.prog.follows Departure.mixedOrders=true:=by kernel_rfl
 go_region_o
 all_goals (go_wp2;go_ret;exact⟨rfl,rfl⟩)
def ux{P:Program}{fits:TypeId->Bool}{d:Nat}{e:TypeId}{c c' off n:Nat}(hc:c<=c')(h:rowAt P fits d e c off n=true):rowAt P fits d e c' off n=true:=by
 cases d with
 |zero=>simp[rowAt]at h
 | succ d=>
  simp only[rowAt]at h|-;split at h
  ·cases h
  ·rename_i hs;rw[if_neg hs];simp only[It,Hq,Hy]at h|-;rcases h with h|h
   ·exact .inl ⟨⟨h.1.1,by omega⟩,h.2⟩
   ·exact .inr ⟨by omega,h.2⟩
theorem iO{P:Program}{u:TypeId}{e:TypeId}{c c' off:Nat}(hc:c<=c'):∀(d:Nat)(u:TypeId)(n:Nat),liesAt P d e c off u n=true->liesAt P d e c' off u n=true
 |0,u,n,h=>by simp[liesAt]at h
 | d+1,u,n,h=>by
  simp only[liesAt,It]at h|-;rcases h with h|h
  ·exact .inl (ux hc h)
  ·refine .inr ?_;split at h
   ·exact iO (u:=u) hc d _ _ h
   ·cases h
def Fj:liesAt Tryz.prog Tryz.prog.depth 104 1 0 104 1=true:=by kernel_rfl
def Fl:liesAt Tryz.prog Tryz.prog.depth 149 1 0 104 1=true:=by kernel_rfl
def CP:Tryz.prog.cellsOf 104=2:=by kernel_rfl
def CW:Tryz.prog.cellsOf 149=3:=by kernel_rfl
def sQ{w:World}{b:Nat}{z:Array Value}{t:TypeId}(hb:w.heap[b]? = some (.cells z t (0,0)))(v:Value):w.setCell ⟨b,0,none⟩ v=w.setRow b (z.setIfInBounds 0 v):=by
 unfold World.setCell World.setRow;congr 1;apply Array.ext (by simp);intro i h1 h2;simp only[Array.getElem_modify];split
 ·rename_i hi;subst hi;obtain⟨hlt,hk⟩:=H4.1 hb;rw[hk];rfl
 ·rfl
def Dt(call:FuncId->List AV->M AV)(args:List AV)(h:Hp)(S:ar)(β:List bj)(w:World)(vs:List Value)(hr:gY [(104,2),(149,3)] call args h≠.fail)(hg:mm β h w)(hw:Wf S w)(hh:cf S β w h)(hv:aN S β args vs):
  Calls Tryz.prog 152 vs.toArray w (dc none S β h w (gY [(104,2),(149,3)] call args h)):=by
 unfold gY at hr |-;cases hpo:wJ args with
 |none=>rw[hpo]at hr;exact absurd rfl hr
 | some l=>
  rw[hpo]at hr
  have:=rX hpo
  subst this;simp only[aN,VR]at hv;obtain⟨_,_,rfl,⟨bk,hβ,hb0,rfl⟩,rfl⟩:=hv;obtain⟨b,nb⟩:=bk;dsimp only at hr |-;have hh0:=hh;obtain⟨hlen,ω,hhr⟩:=hh;cases hl:h[l]? with
  |none=>rw[hl]at hr;exact absurd rfl hr
  | some cs=>
   rw[hl]at hr;dsimp only at hr |-;cases hc:FP [(104,2),(149,3)] l cs with
   |none=>rw[hc]at hr;exact absurd rfl hr
   | some cs'=>
    dsimp only;rcases AB hc with⟨t,x,r,rfl,rfl,n,hm,hn⟩|⟨r,rfl,rfl⟩
    ·obtain⟨z,j1,j2,j3,j4,j5⟩:=hhr.cells hl (by simp) hβ hb0;obtain⟨y,hy⟩:=hhr.tag hl ⟨_,Ic,rfl⟩ hβ;cases j2.inj ⟨t,hy⟩;have hsz:r.length+2<=z.size:=by
      have:=j4.length
      simp at this;omega
     have hz0:z[0]? = some (.pointer none):=by
      have:=j4.get (i:=0) (c:=.nilb t) rfl
      obtain⟨v,h1,h2⟩:=this;simp only[VR]at h2;subst h2;rw[HA]at h1;split at h1
      ·simpa using h1
      ·cases h1
     have hlies:liesAt Tryz.prog Tryz.prog.depth t (z.size / Tryz.prog.cellsOf t) 0 104 1=true:=by
      simp only[HO,Ii,List.not_mem_nil,or_false]at hm;rcases hm with⟨rfl,rfl⟩|⟨rfl,rfl⟩
      ·rw[CP];exact iO (u:=104) (by omega) _ _ _ Fj
      ·rw[CW];exact iO (u:=104) (by omega) _ _ _ Fl
     refine (yF b t z.size w (by rw[cell_of_row _ _ _ _ _ _ hy];exact hz0) (by simp[World.shape?,hy]) (by omega) (by simp[World.frozen?,hy]) hlies).mono ?_;rintro e w' ⟨rfl,rfl⟩;rw[sQ hy];refine tM hg hw hh0 hl (by simp) hβ j2 (by simp) ?_ (fun t' ht=>?_)
     ·have hzl:z.toList= .pointer none:: z.toList.drop 1:=by
       have:=HK (l:=z.toList) (i:=0) (by simp;omega)
       simp only[Ia]at this;rw[this];congr 1;have h3:z.toList[0]? = some (.pointer none):=by simpa using hz0
       rw[HF (by simp;omega)]at h3;simpa using h3
      have hz2:(z.setIfInBounds 0 (.pointer (some ⟨b,0,none⟩))).toList= .pointer (some ⟨b,0,none⟩):: z.toList.drop 1:=by
       simp only[Array.toList_setIfInBounds];rw[hzl];rfl
      rw[hz2];rw[hzl]at j4;simp only[HG,HY,aN,VR]at j4 |-;obtain⟨_,_,h1,_,h2⟩:=j4;obtain⟨rfl,rfl⟩:=List.cons.inj h1;exact⟨_,_,rfl,⟨(b,nb),hβ,hb0,rfl⟩,h2⟩
     ·rcases ht.cons with ht|ht
      ·cases ht
      ·exact ht.mono fun a ha=>Ij _ ha
    ·obtain⟨z,j1,j2,j3,j4,j5⟩:=hhr.cells hl (by simp) hβ hb0;have hz0:z[0]? = some (.pointer (some ⟨b,0,none⟩)):=by
      have:=j4.get (i:=0) (c:=.hp l 0) rfl
      obtain⟨v,h1,h2⟩:=this;simp only[VR]at h2;obtain⟨bk,hbk,_,rfl⟩:=h2;rw[hβ]at hbk;cases hbk;rw[HA]at h1;split at h1
      ·simpa using h1
      ·cases h1
     have hset:h.set l (.hp l 0:: r)=h:=by
      obtain⟨hlt,hk⟩:=HN.1 hl;rw[<- hk];exact Jq hlt
     rw[hset];refine (AC b w (by rw[j2.cell];exact hz0)).mono ?_;rintro e w' ⟨rfl,rfl⟩;exact ci hw hh0 (Below.refl _ _) nH (by simp only[VR];exact⟨[],rfl,by simp[aN]⟩)
theorem oT{S:ar}{β:List bj}{e:Nat}:{cs:List AV} ->{s:List UInt8} ->{vs:List Value} ->jz e cs=some s->aN S β cs vs->s.length=cs.length/\(∀(j:Nat)(x:UInt8),s[j]? = some x->vs[j]? = some (Value.int .u8 x.toNat))/\∀x∈cs,kM x=some e
 |[],s,vs,h,_=>by
  simp only[jz,Ho]at h;subst h;exact⟨rfl,fun j x hx=>by simp at hx,fun x hx=>by cases hx⟩
 | c :: cs,s,vs,h,hv=>by
  simp only[jz]at h;cases h1:yB e c with
  |none=>rw[h1]at h;cases h
  | some b=>
   cases h2:jz e cs with
   |none=>rw[h1,h2]at h;cases h
   | some l=>
    rw[h1,h2]at h;simp only[Ho]at h;subst h;simp only[aN]at hv;obtain⟨y,ys,rfl,hy,hv⟩:=hv;obtain⟨k1,k2,k3⟩:=oT h2 hv;unfold yB at h1;split at h1
    ·rename_i t n;cases hc:(Nat.beq t e&&decide (0<=n)&&decide (n<256))with
     |false=>rw[hc]at h1;cases h1
     | true=>
      rw[hc]at h1;simp only[Hr,Ho]at h1;simp only[Hq,Hy]at hc;obtain⟨⟨c1,c2⟩,c3⟩:=hc;have c1:=Hv c1;subst c1 h1;simp only[VR]at hy;subst hy;refine⟨by simp[k1],fun j x hx=>?_,fun x hx=>?_⟩
      ·cases j with
       |zero=>
        simp only[HS,Ho]at hx |-;subst hx;congr 1;have:(UInt8.ofNat n.toNat).toNat=n.toNat % 256:=rfl;rw[this,JK (by omega)];omega
       |succ j=>exact k2 j x (by simpa using hx)
      ·rcases HO.1 hx with rfl|hx
       ·rfl
       ·exact k3 x hx
    ·cases h1
def t6{w:World}{g n:Nat}:Gro w (w.drew.freeze ⟨g,0,none⟩ n)/\(w.drew.freeze ⟨g,0,none⟩ n).heap.size=w.heap.size/\∀k,k≠g->(w.drew.freeze ⟨g,0,none⟩ n).heap[k]? = w.heap[k]?:=by
 have h1:Gro w.drew (w.drew.freeze ⟨g,0,none⟩ n)/\(w.drew.freeze ⟨g,0,none⟩ n).heap.size=w.drew.heap.size/\∀k,k≠g->(w.drew.freeze ⟨g,0,none⟩ n).heap[k]? = w.drew.heap[k]?:=by
  generalize w.drew=v;unfold World.freeze;split
  ·exact⟨Gro.refl _,rfl,fun _ _=>rfl⟩
  ·refine⟨⟨by simp,rfl,rfl,rfl,fun _=>Hu _⟩,by simp,fun k hk=>?_⟩;simp only[Jn];rw[if_neg (by omega)]
 exact⟨(Gro.drew w).trans h1.1,h1.2.1,h1.2.2⟩
def Fu(call:FuncId->List AV->M AV)(args:List AV)(h:Hp)(S:ar)(β:List bj)(w:World)(vs:List Value)(hr:eA 5 call args h≠.fail)(hg:mm β h w)(hw:Wf S w)(hh:cf S β w h)(hv:aN S β args vs):
  Calls Tryz.prog 87 vs.toArray w (dc none S β h w (eA 5 call args h)):=by
 unfold eA at hr |-;cases hpo:wJ args with
 |none=>rw[hpo]at hr;exact absurd rfl hr
 | some l =>
  rw[hpo]at hr
  have:=rX hpo
  subst this;simp only[aN,VR]at hv;obtain⟨_,_,rfl,⟨bk,hβ,hb0,rfl⟩,rfl⟩:=hv;obtain⟨b,nb⟩:=bk;dsimp only at hr |-;have hh0:=hh;obtain⟨hlen,ω,hhr⟩:=hh;have one:∀ {cs:List AV} {x y:AV} {r:List AV},h[l]? = some cs->cs=x:: y:: r->∃v,w.cell? ⟨b,1,none⟩=some v/\VR S β y v:=by
   rintro cs x y r hl rfl;obtain⟨z,j1,j2,j3,j4,j5⟩:=hhr.cells hl (by simp) hβ hb0;obtain⟨v,h1,h2⟩:=j4.get (i:=1) (c:=y) rfl;rw[HA]at h1;split at h1
   ·exact⟨v,by rw[j2.cell];simpa using h1,h2⟩
   ·cases h1
  cases hl:h[l]? with
  |none=>rw[hl]at hr;exact absurd rfl hr
  | some cs0=>
   rw[hl]at hr;dsimp only at hr |-;cases hst:stA cs0 with
   |none=>rw[hst]at hr;exact absurd rfl hr
   | some q=>
    rw[hst]at hr;cases q with
    |none=>
     dsimp only;obtain⟨x,r,hx⟩:=zX hst;obtain⟨v,hc1,hv1⟩:=one hl hx;simp only[VR]at hv1;subst hv1;refine (DG b w hc1).mono ?_;rintro e w' ⟨rfl,rfl⟩;exact ci (w':=w.drew) (r:=.str []) (v:=.string ⟨#[]⟩) hw hh0 ⟨rfl,rfl,rfl,Hu _,fun _ _=>rfl⟩ nH (by simp only[VR];exact⟨_,rfl,rfl⟩)
    | some q=>
     obtain⟨lb,len⟩:=q;dsimp only at hr |-;obtain⟨x,r,hx,k1,k3⟩:=zY hst;obtain⟨v,hc1,hv1⟩:=one hl hx;cases hcs:h[lb]? with
     |none=>rw[hcs]at hr;exact absurd rfl hr
     | some cs=>
      rw[hcs]at hr;dsimp only at hr |-;cases hle:Nat.ble len cs.length with
      |false=>rw[hle]at hr;exact absurd rfl hr
      | true=>
       rw[hle]at hr;simp only[Hr]at hr |-;have k2:=Jo hle;cases hb:jz 5 (cs.take len)with
       |none=>rw[hb]at hr;exact absurd rfl hr
       | some s=>
        dsimp only;obtain⟨b2,cap,hβ2,hb20,rfl,hlc,hcn⟩:=hv1.hs_pos k1;obtain⟨g,ng⟩:=b2;obtain⟨z,j1,j2,j3,j4,j5⟩:=hhr.cells hcs (by rintro rfl;simp at k2;omega) hβ2 hb20;have j6:=j4.take len;rw[IU,IP k2]at j6;obtain⟨s1,s2,s3⟩:=oT hb j6;have hsl:s.length=len:=by rw[s1];simp;omega
        have hin:cg 5 cs:=by
         cases cs with
         |nil=>simp at k2;omega
         |cons c cs=>
          refine⟨c,Ic,s3 c ?_⟩;obtain⟨m,rfl⟩:∃m,len=m+1:=⟨len-1,by omega⟩;simp
        obtain⟨y,hy⟩:=hhr.tag hcs hin hβ2;cases j2.inj ⟨_,hy⟩;have hzl:cs.length<=z.size:=by have:=j4.length;simp at this;omega
        have hcell:∀(j:Nat)(x:UInt8),s[j]? = some x->z[j]? = some (Value.int .u8 x.toNat):=fun j x hx=>by
         have:=s2 j x hx
         rw[HA]at this;split at this
         ·simpa using this
         ·cases this
        subst hsl;refine (DI b g cap z s w (by rintro rfl;simp at k1) hlc hc1 hy k3 (by omega) hcell).mono ?_;rintro e w' ⟨rfl,rfl⟩;obtain⟨f1,f2,f3⟩:=t6 (w:=w) (g:=g) (n:=s.length);exact tL hg hw hh0 hcs (by rintro rfl;rw[HM]at k2;omega) hβ2 f1 f2 f3 (by simp only[VR];exact⟨_,rfl,rfl⟩)
end Go.Proofs.YteemeakjlfnapaaGreatDoor
