/- What the functions of the seat compute, part 1: the texts of the claim, one behind the other. Conditions: bounds, as each theorem names them. -/
import Derived.Shelf.LaysM
import Derived.Shelf.Strconv.Itoa3
import Derived.Shelf.Strings.Search3
import Derived.Shelf.Strings.Fields
import Derived.Test.YteemeakjlfnapaaGreatDoorProg
import Derived.Test.YteemeakjlfnapaaGreatDoorLc
import Derived.Lib.Builder
import Derived.Lib.UnsafeStr
import Derived.Shelf.RegionOpenPlain
import Derived.Laws.Externs
import Derived.Laws.IdiomCopy
import Derived.Laws.BitsLemmas
set_option linter.defProp false
set_option linter.unusedSimpArgs false
set_option linter.unusedVariables false
namespace Go.Proofs
open Go.Shelf
def Ea:Go.Shelf.Ren:=⟨fun|171=>153|243=>207|246=>240|283=>262|284=>263|285=>264|286=>265|129=>223|317=>278|318=>279|319=>280|320=>281|337=>285|338=>286|n=>n,fun|3=>3|9=>9|2=>2|4=>4|171=>250|0=>0|53=>214|37=>102|5=>5|173=>252|212=>278|51=>212|20=>20|213=>279|46=>175|232=>291|233=>292|n=>n,fun|17=>3|18=>6|19=>7|n=>n⟩
def Ed:Go.Proofs.LaysM.n171 Tryz.prog Ea:={
 mixed:=by kernel_rfl
 f129:=Tryz.func223.trans (Er some (by kernel_rfl))
 f171:=Tryz.func153.trans (Er some (by kernel_rfl))
 f243:=Tryz.func207.trans (Er some (by kernel_rfl))
 f246:=Tryz.func240.trans (Er some (by kernel_rfl))
 f283:=Tryz.func262.trans (Er some (by kernel_rfl))
 f284:=Tryz.func263.trans (Er some (by kernel_rfl))
 f285:=Tryz.func264.trans (Er some (by kernel_rfl))
 f286:=Tryz.func265.trans (Er some (by kernel_rfl))
 f317:=Tryz.func278.trans (Er some (by kernel_rfl))
 f318:=Tryz.func279.trans (Er some (by kernel_rfl))
 f319:=Tryz.func280.trans (Er some (by kernel_rfl))
 f320:=Tryz.func281.trans (Er some (by kernel_rfl))
 f337:=Tryz.func285.trans (Er some (by kernel_rfl))
 f338:=Tryz.func286.trans (Er some (by kernel_rfl))
 t0:=Tryz.underlying0
 a0:=Tryz.isAgg0
 z0:=Tryz.sizeOf0
 v0:=Tryz.zeroValue0
 t2:=Tryz.underlying2
 a2:=Tryz.isAgg2
 z2:=Tryz.sizeOf2
 v2:=Tryz.zeroValue2
 t3:=Tryz.underlying3
 a3:=Tryz.isAgg3
 z3:=Tryz.sizeOf3
 v3:=Tryz.zeroValue3
 t4:=Tryz.underlying4
 a4:=Tryz.isAgg4
 z4:=Tryz.sizeOf4
 v4:=Tryz.zeroValue4
 t5:=Tryz.underlying5
 a5:=Tryz.isAgg5
 z5:=Tryz.sizeOf5
 v5:=Tryz.zeroValue5
 t9:=Tryz.underlying9
 a9:=Tryz.isAgg9
 z9:=Tryz.sizeOf9
 v9:=Tryz.zeroValue9
 t20:=Tryz.underlying20
 a20:=Tryz.isAgg20
 z20:=Tryz.sizeOf20
 v20:=Tryz.zeroValue20
 t37:=Tryz.underlying102
 a37:=Tryz.isAgg102
 z37:=Tryz.sizeOf102
 v37:=Tryz.zeroValue102
 t46:=Tryz.underlying175
 a46:=Tryz.isAgg175
 z46:=Tryz.sizeOf175
 v46:=Tryz.zeroValue175
 t51:=Tryz.underlying212
 a51:=Tryz.isAgg212
 z51:=Tryz.sizeOf212
 v51:=Tryz.zeroValue212
 t53:=Tryz.underlying214
 a53:=Tryz.isAgg214
 z53:=Tryz.sizeOf214
 v53:=Tryz.zeroValue214
 t171:=Tryz.underlying250
 a171:=Tryz.isAgg250
 z171:=Tryz.sizeOf250
 v171:=Tryz.zeroValue250
 t173:=Tryz.underlying252
 a173:=Tryz.isAgg252
 z173:=Tryz.sizeOf252
 v173:=Tryz.zeroValue252
 t212:=Tryz.underlying278
 a212:=Tryz.isAgg278
 z212:=Tryz.sizeOf278
 v212:=Tryz.zeroValue278
 t213:=Tryz.underlying279
 a213:=Tryz.isAgg279
 z213:=Tryz.sizeOf279
 t232:=Tryz.underlying291
 a232:=Tryz.isAgg291
 z232:=Tryz.sizeOf291
 v232:=Tryz.zeroValue291
 t233:=Tryz.underlying292
 a233:=Tryz.isAgg292
 z233:=Tryz.sizeOf292
 v233:=Tryz.zeroValue292
 g17:=by kernel_rfl
 g18:=by kernel_rfl
 g19:=by kernel_rfl
 i0:=by kernel_rfl
 i2:=by kernel_rfl
 i3:=by kernel_rfl
 i4:=by kernel_rfl
 i5:=by kernel_rfl
 i9:=by kernel_rfl
 i20:=by kernel_rfl
 i37:=by kernel_rfl
 i46:=by kernel_rfl
 i51:=by kernel_rfl
 i53:=by kernel_rfl
 i171:=by kernel_rfl
 i173:=by kernel_rfl
 i212:=by kernel_rfl
 i232:=by kernel_rfl
 i233:=by kernel_rfl
 m17:=by kernel_rfl
 m18:=by kernel_rfl
 m19:=by kernel_rfl }
def Eb:Go.Shelf.Ren:=⟨fun|144=>147|143=>203|219=>239|217=>241|225=>259|224=>260|267=>261|266=>266|314=>277|n=>n,fun|9=>9|4=>4|3=>3|5=>5|46=>175|146=>275|51=>212|n=>n,fun|1=>2|n=>n⟩
def Ef:Go.Proofs.Lays.n144 Tryz.prog Eb:={
 mixed:=by kernel_rfl
 f143:=Tryz.func203.trans (Er some (by kernel_rfl))
 f144:=Tryz.func147.trans (Er some (by kernel_rfl))
 f217:=Tryz.func241.trans (Er some (by kernel_rfl))
 f219:=Tryz.func239.trans (Er some (by kernel_rfl))
 f224:=Tryz.func260.trans (Er some (by kernel_rfl))
 f225:=Tryz.func259.trans (Er some (by kernel_rfl))
 f266:=Tryz.func266.trans (Er some (by kernel_rfl))
 f267:=Tryz.func261.trans (Er some (by kernel_rfl))
 f314:=Tryz.func277.trans (Er some (by kernel_rfl))
 t3:=Tryz.underlying3
 a3:=Tryz.isAgg3
 z3:=Tryz.sizeOf3
 v3:=Tryz.zeroValue3
 t4:=Tryz.underlying4
 a4:=Tryz.isAgg4
 z4:=Tryz.sizeOf4
 v4:=Tryz.zeroValue4
 t5:=Tryz.underlying5
 a5:=Tryz.isAgg5
 z5:=Tryz.sizeOf5
 v5:=Tryz.zeroValue5
 t9:=Tryz.underlying9
 a9:=Tryz.isAgg9
 z9:=Tryz.sizeOf9
 v9:=Tryz.zeroValue9
 t46:=Tryz.underlying175
 a46:=Tryz.isAgg175
 z46:=Tryz.sizeOf175
 v46:=Tryz.zeroValue175
 t51:=Tryz.underlying212
 a51:=Tryz.isAgg212
 z51:=Tryz.sizeOf212
 v51:=Tryz.zeroValue212
 t146:=Tryz.underlying275
 a146:=Tryz.isAgg275
 z146:=Tryz.sizeOf275
 v146:=Tryz.zeroValue275
 g1:=by kernel_rfl }
def Ec:Go.Shelf.Ren:=⟨fun|157=>193|229=>236|199=>237|261=>258|311=>275|312=>276|n=>n,fun|9=>9|31=>35|3=>3|5=>5|4=>4|119=>228|0=>0|40=>230|152=>244|21=>21|154=>246|51=>212|141=>248|196=>267|193=>264|198=>270|49=>268|194=>265|201=>273|226=>285|46=>175|227=>286|n=>n,fun|0=>0|6=>1|n=>n⟩
def Ee:Go.Proofs.Lays.n157 Tryz.prog Ec:={
 mixed:=by kernel_rfl
 f157:=Tryz.func193.trans (Er some (by kernel_rfl))
 f199:=Tryz.func237.trans (Er some (by kernel_rfl))
 f229:=Tryz.func236.trans (Er some (by kernel_rfl))
 f261:=Tryz.func258.trans (Er some (by kernel_rfl))
 f311:=Tryz.func275.trans (Er some (by kernel_rfl))
 f312:=Tryz.func276.trans (Er some (by kernel_rfl))
 t0:=Tryz.underlying0
 a0:=Tryz.isAgg0
 z0:=Tryz.sizeOf0
 v0:=Tryz.zeroValue0
 t3:=Tryz.underlying3
 a3:=Tryz.isAgg3
 z3:=Tryz.sizeOf3
 v3:=Tryz.zeroValue3
 t4:=Tryz.underlying4
 a4:=Tryz.isAgg4
 z4:=Tryz.sizeOf4
 v4:=Tryz.zeroValue4
 t5:=Tryz.underlying5
 a5:=Tryz.isAgg5
 z5:=Tryz.sizeOf5
 v5:=Tryz.zeroValue5
 t9:=Tryz.underlying9
 a9:=Tryz.isAgg9
 z9:=Tryz.sizeOf9
 v9:=Tryz.zeroValue9
 t21:=Tryz.underlying21
 a21:=Tryz.isAgg21
 z21:=Tryz.sizeOf21
 v21:=Tryz.zeroValue21
 t31:=Tryz.underlying35
 a31:=Tryz.isAgg35
 z31:=Tryz.sizeOf35
 v31:=Tryz.zeroValue35
 t40:=Tryz.underlying230
 a40:=Tryz.isAgg230
 z40:=Tryz.sizeOf230
 v40:=Tryz.zeroValue230
 t46:=Tryz.underlying175
 a46:=Tryz.isAgg175
 z46:=Tryz.sizeOf175
 v46:=Tryz.zeroValue175
 t49:=Tryz.underlying268
 a49:=Tryz.isAgg268
 z49:=Tryz.sizeOf268
 v49:=Tryz.zeroValue268
 t51:=Tryz.underlying212
 a51:=Tryz.isAgg212
 z51:=Tryz.sizeOf212
 v51:=Tryz.zeroValue212
 t119:=Tryz.underlying228
 a119:=Tryz.isAgg228
 z119:=Tryz.sizeOf228
 t141:=Tryz.underlying248
 a141:=Tryz.isAgg248
 z141:=Tryz.sizeOf248
 v141:=Tryz.zeroValue248
 t152:=Tryz.underlying244
 a152:=Tryz.isAgg244
 z152:=Tryz.sizeOf244
 v152:=Tryz.zeroValue244
 t154:=Tryz.underlying246
 a154:=Tryz.isAgg246
 z154:=Tryz.sizeOf246
 v154:=Tryz.zeroValue246
 t193:=Tryz.underlying264
 a193:=Tryz.isAgg264
 z193:=Tryz.sizeOf264
 v193:=Tryz.zeroValue264
 t194:=Tryz.underlying265
 a194:=Tryz.isAgg265
 z194:=Tryz.sizeOf265
 v194:=Tryz.zeroValue265
 t196:=Tryz.underlying267
 a196:=Tryz.isAgg267
 z196:=Tryz.sizeOf267
 v196:=Tryz.zeroValue267
 t198:=Tryz.underlying270
 a198:=Tryz.isAgg270
 z198:=Tryz.sizeOf270
 v198:=Tryz.zeroValue270
 t201:=Tryz.underlying273
 a201:=Tryz.isAgg273
 z201:=Tryz.sizeOf273
 v201:=Tryz.zeroValue273
 t226:=Tryz.underlying285
 a226:=Tryz.isAgg285
 z226:=Tryz.sizeOf285
 v226:=Tryz.zeroValue285
 t227:=Tryz.underlying286
 a227:=Tryz.isAgg286
 z227:=Tryz.sizeOf286
 v227:=Tryz.zeroValue286
 g0:=by kernel_rfl
 g6:=by kernel_rfl }
end Go.Proofs
namespace Go.Proofs.YteemeakjlfnapaaGreatDoor
open Go Go.Av Go.Av.Ap
abbrev CC:=FuncId->List AV->M AV
abbrev RR:=List AV->M AV
def lb{α β:Type}{m:M α}{f:α->M β}{fs:Nat->α->M β}(hf:bh f fs):aF (af m f) fun n=>af m (fs n):=aF.bnd (aF.const _) hf
abbrev vN(l:List Nat):List (Nat×Option Nat):=l.map fun x=>(x,none)
abbrev tF:TI:=TI.mk false 1 8 .func [] [.nilf] false
noncomputable def tab:List (Nat×TI):=[
(0,(TI.mk false 1 0 .other [] [.any] false)),
(1,tF),
(2,(TI.mk false 1 8 (.int .i64) [] [.int .i64 0] false)),
(3,(TI.mk false 1 8 (.int .i64) [] [.int .i64 0] false)),
(4,(TI.mk false 1 1 .bool [] [.bool false] false)),
(5,(TI.mk false 1 1 (.int .u8) [] [.int .u8 0] false)),
(6,(TI.mk false 1 1 (.int .u8) [] [.int .u8 0] false)),
(7,(TI.mk true 4 24 .struct [(0,((2,true))),(1,((3,true))),(2,((4,true))),(3,((6,true)))] [.int .i64 0,.int .i64 0,.bool false,.int .u8 0] true)),
(8,(TI.mk true 4 24 .struct [(0,((2,true))),(1,((3,true))),(2,((4,true))),(3,((6,true)))] [.int .i64 0,.int .i64 0,.bool false,.int .u8 0] true)),
(9,(TI.mk false 1 16 .str [] [.str []] false)),
(10,(TI.mk false 1 16 .str [] [.str []] false)),
(11,(TI.mk false 1 16 .str [] [.str []] false)),
(12,(TI.mk false 1 8 (.int .u64) [] [.int .u64 0] false)),
(13,(TI.mk true 2 24 .struct [(0,((9,true))),(1,((12,true)))] [.str [],.int .u64 0] false)),
(14,(TI.mk true 2 24 .struct [(0,((9,true))),(1,((12,true)))] [.str [],.int .u64 0] false)),
(15,(TI.mk false 1 8 .ptr [] [.nilp] false)),
(16,(TI.mk false 1 8 .ptr [] [.nilp] false)),
(17,(TI.mk false 1 8 .ptr [] [.nilp] false)),
(18,(TI.mk true 1 8 .struct [(0,((17,true)))] [.nilp] false)),
(19,(TI.mk true 1 8 .struct [(0,((17,true)))] [.nilp] false)),
(20,(TI.mk false 1 16 .iface [] [.nili] false)),
(21,(TI.mk false 1 4 (.int .i32) [] [.int .i32 0] false)),
(22,(TI.mk false 1 24 (.slice 56) [] [.sl []] false)),
(23,(TI.mk true 2 40 .struct [(0,((9,true))),(1,((22,true)))] [.str [],.sl []] true)),
(24,(TI.mk true 2 40 .struct [(0,((9,true))),(1,((22,true)))] [.str [],.sl []] true)),
(25,(TI.mk false 1 24 (.slice 76) [] [.sl []] false)),
(26,(TI.mk true 2 32 .struct [(0,((3,true))),(1,((25,true)))] [.int .i64 0,.sl []] true)),
(27,(TI.mk true 2 32 .struct [(0,((3,true))),(1,((25,true)))] [.int .i64 0,.sl []] true)),
(28,(TI.mk true 3 24 .struct [(0,((3,true))),(1,((3,true))),(2,((3,true)))] [.int .i64 0,.int .i64 0,.int .i64 0] true)),
(29,(TI.mk true 3 24 .struct [(0,((3,true))),(1,((3,true))),(2,((3,true)))] [.int .i64 0,.int .i64 0,.int .i64 0] true)),
(30,tF),
(31,tF),
(32,tF),
(33,(TI.mk false 1 0 .other [] [.any] false)),
(34,tF),
(35,(TI.mk false 1 24 (.slice 9) [] [.sl []] false)),
(36,(TI.mk false 1 24 (.slice 47) [] [.sl []] false)),
(37,(TI.mk false 1 24 (.slice 73) [] [.sl []] false)),
(38,(TI.mk true 3 72 .struct [(0,((25,true))),(1,((36,true))),(2,((36,true)))] [.sl [],.sl [],.sl []] true)),
(39,(TI.mk true 3 72 .struct [(0,((25,true))),(1,((36,true))),(2,((36,true)))] [.sl [],.sl [],.sl []] true)),
(40,(TI.mk true 9 192 .struct [(0,((9,true))),(1,((35,true))),(2,((25,true))),(3,((36,true))),(4,((37,true))),(5,((4,true))),(6,((39,true)))] [.str [],.sl [],.sl [],.sl [],.sl [],.bool false,.sl [],.sl [],.sl []] true)),
(41,(TI.mk true 9 192 .struct [(0,((9,true))),(1,((35,true))),(2,((25,true))),(3,((36,true))),(4,((37,true))),(5,((4,true))),(6,((39,true)))] [.str [],.sl [],.sl [],.sl [],.sl [],.bool false,.sl [],.sl [],.sl []] true)),
(42,(TI.mk false 1 0 .other [] [.any] false)),
(43,tF),
(44,tF),
(45,tF),
(46,(TI.mk true 6 96 .struct [(0,((3,true))),(1,((3,true))),(2,((9,true))),(3,((9,true))),(4,((35,true))),(5,((36,true)))] [.int .i64 0,.int .i64 0,.str [],.str [],.sl [],.sl []] true)),
(47,(TI.mk true 6 96 .struct [(0,((3,true))),(1,((3,true))),(2,((9,true))),(3,((9,true))),(4,((35,true))),(5,((36,true)))] [.int .i64 0,.int .i64 0,.str [],.str [],.sl [],.sl []] true)),
(48,tF),
(49,tF),
(50,tF),
(51,tF),
(52,tF),
(53,tF),
(54,(TI.mk false 1 24 (.slice 27) [] [.sl []] false)),
(55,(TI.mk true 5 80 .struct [(0,((9,true))),(1,((54,true))),(2,((27,true))),(4,((3,true)))] [.str [],.sl [],.int .i64 0,.sl [],.int .i64 0] true)),
(56,(TI.mk true 5 80 .struct [(0,((9,true))),(1,((54,true))),(2,((27,true))),(4,((3,true)))] [.str [],.sl [],.int .i64 0,.sl [],.int .i64 0] true)),
(57,tF),
(58,tF),
(59,(TI.mk false 1 8 (.int .i64) [] [.int .i64 0] false)),
(60,(TI.mk false 1 0 .other [] [.any] false)),
(61,tF),
(62,(TI.mk false 1 0 .other [] [.any] false)),
(63,tF),
(64,(TI.mk false 1 0 .other [] [.any] false)),
(65,tF),
(66,tF),
(67,tF),
(68,tF),
(69,tF),
(70,tF),
(71,tF),
(72,(TI.mk true 12 184 .struct [(0,((9,true))),(1,((4,true))),(2,((25,true))),(3,((27,true))),(5,((3,true))),(6,((47,true)))] [.str [],.bool false,.sl [],.int .i64 0,.sl [],.int .i64 0,.int .i64 0,.int .i64 0,.str [],.str [],.sl [],.sl []] true)),
(73,(TI.mk true 12 184 .struct [(0,((9,true))),(1,((4,true))),(2,((25,true))),(3,((27,true))),(5,((3,true))),(6,((47,true)))] [.str [],.bool false,.sl [],.int .i64 0,.sl [],.int .i64 0,.int .i64 0,.int .i64 0,.str [],.str [],.sl [],.sl []] true)),
(74,tF),
(75,(TI.mk true 3 48 .struct [(0,((9,true))),(1,((27,true)))] [.str [],.int .i64 0,.sl []] true)),
(76,(TI.mk true 3 48 .struct [(0,((9,true))),(1,((27,true)))] [.str [],.int .i64 0,.sl []] true)),
(77,tF),
(78,(TI.mk false 1 24 (.slice 24) [] [.sl []] false)),
(79,tF),
(80,tF),
(81,tF),
(82,(TI.mk false 1 0 .other [] [.any] false)),
(83,tF),
(84,tF),
(85,tF),
(86,tF),
(87,tF),
(88,tF),
(89,tF),
(90,tF),
(91,tF),
(92,tF),
(93,tF),
(94,tF),
(95,tF),
(96,tF),
(97,tF),
(98,tF),
(99,tF),
(100,tF),
(101,(TI.mk false 1 8 .ptr [] [.nilp] false)),
(102,(TI.mk false 1 24 (.slice 5) [] [.sl []] false)),
(103,(TI.mk true 2 32 .struct [(0,((101,true))),(1,((102,true)))] [.nilp,.sl []] true)),
(104,(TI.mk true 2 32 .struct [(0,((101,true))),(1,((102,true)))] [.nilp,.sl []] true)),
(105,(TI.mk false 1 16 .iface [] [.nili] false)),
(106,(TI.mk false 1 16 .iface [] [.nili] false)),
(107,(TI.mk false 1 0 .other [] [.any] false)),
(108,tF),
(109,tF),
(110,tF),
(111,tF),
(112,tF),
(113,tF),
(114,(TI.mk false 1 8 .ptr [] [.nilp] false)),
(115,tF),
(116,tF),
(117,tF),
(118,(TI.mk false 1 8 .ptr [] [.nilp] false)),
(119,tF),
(120,tF),
(121,tF),
(122,tF),
(123,tF),
(124,tF),
(125,tF),
(126,tF),
(127,tF),
(128,tF),
(129,tF),
(130,(TI.mk false 1 8 (.map 9 4) [] [.nilm] false)),
(131,tF),
(132,tF),
(133,tF),
(134,tF),
(135,(TI.mk false 1 8 .ptr [] [.nilp] false)),
(136,(TI.mk false 1 0 .other [] [.any] false)),
(137,tF),
(138,(TI.mk false 1 0 .other [] [.any] false)),
(139,(TI.mk false 1 8 (.map 9 24) [] [.nilm] false)),
(140,(TI.mk true 11 208 .struct [(0,((41,true))),(9,((139,true))),(10,((3,true)))] [.str [],.sl [],.sl [],.sl [],.sl [],.bool false,.sl [],.sl [],.sl [],.nilm,.int .i64 0] true)),
(141,(TI.mk true 11 208 .struct [(0,((41,true))),(9,((139,true))),(10,((3,true)))] [.str [],.sl [],.sl [],.sl [],.sl [],.bool false,.sl [],.sl [],.sl [],.nilm,.int .i64 0] true)),
(142,(TI.mk false 1 0 .other [] [.any] false)),
(143,tF),
(144,tF),
(145,tF),
(146,tF),
(147,tF),
(148,(TI.mk true 3 40 .struct [(0,((104,true))),(2,((4,true)))] [.nilp,.sl [],.bool false] true)),
(149,(TI.mk true 3 40 .struct [(0,((104,true))),(2,((4,true)))] [.nilp,.sl [],.bool false] true)),
(150,tF),
(151,tF),
(152,tF),
(153,tF),
(154,tF),
(155,tF),
(156,tF),
(157,tF),
(158,tF),
(159,tF),
(160,tF),
(161,(TI.mk false 1 8 .ptr [] [.nilp] false)),
(162,(TI.mk true 2 24 .struct [(0,((9,true))),(1,((4,true)))] [.str [],.bool false] true)),
(163,(TI.mk true 2 24 .struct [(0,((9,true))),(1,((4,true)))] [.str [],.bool false] true)),
(164,tF),
(165,tF),
(166,(TI.mk true 2 24 .struct [(0,((9,true))),(1,((4,true)))] [.str [],.bool false] true)),
(167,(TI.mk true 2 24 .struct [(0,((9,true))),(1,((4,true)))] [.str [],.bool false] true)),
(168,tF),
(169,tF),
(170,tF),
(171,tF),
(172,tF),
(173,tF),
(174,tF),
(175,(TI.mk false 1 8 (.int .u64) [] [.int .u64 0] false)),
(176,tF),
(177,tF),
(178,tF),
(179,tF),
(180,(TI.mk false 1 0 .other [] [.any] false)),
(181,tF),
(182,(TI.mk false 1 0 .other [] [.any] false)),
(183,tF),
(184,tF),
(185,tF),
(186,tF),
(187,(TI.mk false 1 8 .ptr [] [.nilp] false)),
(188,tF),
(189,tF),
(190,tF),
(191,tF),
(192,tF),
(193,tF),
(194,tF),
(195,tF),
(196,(TI.mk false 1 24 (.slice 3) [] [.sl []] false)),
(197,tF),
(198,(TI.mk false 1 8 .other [] [.nilp] false)),
(199,tF),
(200,tF),
(201,(TI.mk false 1 0 .other [] [.any] false)),
(202,tF),
(203,tF),
(204,(TI.mk false 1 8 (.int .i64) [] [.int .i64 0] false)),
(205,(TI.mk false 1 0 .other [] [.any] false)),
(206,tF),
(207,tF),
(208,tF),
(209,(TI.mk false 1 0 .other [] [.any] false)),
(210,tF),
(211,tF),
(212,(TI.mk false 1 4 (.int .u32) [] [.int .u32 0] false)),
(213,tF),
(214,(TI.mk false 1 8 (.int .u64) [] [.int .u64 0] false)),
(215,(TI.mk false 1 0 .other [] [.any] false)),
(216,tF),
(217,tF),
(218,tF),
(219,tF),
(220,tF),
(221,tF),
(222,(TI.mk false 1 24 (.slice 225) [] [.sl []] false)),
(223,tF),
(224,(TI.mk true 3 32 .struct [(0,((9,true))),(1,((3,true))),(2,((3,true)))] [.str [],.int .i64 0,.int .i64 0] true)),
(225,(TI.mk true 3 32 .struct [(0,((9,true))),(1,((3,true))),(2,((3,true)))] [.str [],.int .i64 0,.int .i64 0] true)),
(226,tF),
(227,tF),
(228,(TI.mk true 256 256 (.array 256 5) [] [.int .u8 0,.int .u8 0,.int .u8 0,.int .u8 0,.int .u8 0,.int .u8 0,.int .u8 0,.int .u8 0,.int .u8 0,.int .u8 0,.int .u8 0,.int .u8 0,.int .u8 0,.int .u8 0,.int .u8 0,.int .u8 0,.int .u8 0,.int .u8 0,.int .u8 0,.int .u8 0,.int .u8 0,.int .u8 0,.int .u8 0,.int .u8 0,.int .u8 0,.int .u8 0,.int .u8 0,.int .u8 0,.int .u8 0,.int .u8 0,.int .u8 0,.int .u8 0,.int .u8 0,.int .u8 0,.int .u8 0,.int .u8 0,.int .u8 0,.int .u8 0,.int .u8 0,.int .u8 0,.int .u8 0,.int .u8 0,.int .u8 0,.int .u8 0,.int .u8 0,.int .u8 0,.int .u8 0,.int .u8 0,.int .u8 0,.int .u8 0,.int .u8 0,.int .u8 0,.int .u8 0,.int .u8 0,.int .u8 0,.int .u8 0,.int .u8 0,.int .u8 0,.int .u8 0,.int .u8 0,.int .u8 0,.int .u8 0,.int .u8 0,.int .u8 0,.int .u8 0,.int .u8 0,.int .u8 0,.int .u8 0,.int .u8 0,.int .u8 0,.int .u8 0,.int .u8 0,.int .u8 0,.int .u8 0,.int .u8 0,.int .u8 0,.int .u8 0,.int .u8 0,.int .u8 0,.int .u8 0,.int .u8 0,.int .u8 0,.int .u8 0,.int .u8 0,.int .u8 0,.int .u8 0,.int .u8 0,.int .u8 0,.int .u8 0,.int .u8 0,.int .u8 0,.int .u8 0,.int .u8 0,.int .u8 0,.int .u8 0,.int .u8 0,.int .u8 0,.int .u8 0,.int .u8 0,.int .u8 0,.int .u8 0,.int .u8 0,.int .u8 0,.int .u8 0,.int .u8 0,.int .u8 0,.int .u8 0,.int .u8 0,.int .u8 0,.int .u8 0,.int .u8 0,.int .u8 0,.int .u8 0,.int .u8 0,.int .u8 0,.int .u8 0,.int .u8 0,.int .u8 0,.int .u8 0,.int .u8 0,.int .u8 0,.int .u8 0,.int .u8 0,.int .u8 0,.int .u8 0,.int .u8 0,.int .u8 0,.int .u8 0,.int .u8 0,.int .u8 0,.int .u8 0,.int .u8 0,.int .u8 0,.int .u8 0,.int .u8 0,.int .u8 0,.int .u8 0,.int .u8 0,.int .u8 0,.int .u8 0,.int .u8 0,.int .u8 0,.int .u8 0,.int .u8 0,.int .u8 0,.int .u8 0,.int .u8 0,.int .u8 0,.int .u8 0,.int .u8 0,.int .u8 0,.int .u8 0,.int .u8 0,.int .u8 0,.int .u8 0,.int .u8 0,.int .u8 0,.int .u8 0,.int .u8 0,.int .u8 0,.int .u8 0,.int .u8 0,.int .u8 0,.int .u8 0,.int .u8 0,.int .u8 0,.int .u8 0,.int .u8 0,.int .u8 0,.int .u8 0,.int .u8 0,.int .u8 0,.int .u8 0,.int .u8 0,.int .u8 0,.int .u8 0,.int .u8 0,.int .u8 0,.int .u8 0,.int .u8 0,.int .u8 0,.int .u8 0,.int .u8 0,.int .u8 0,.int .u8 0,.int .u8 0,.int .u8 0,.int .u8 0,.int .u8 0,.int .u8 0,.int .u8 0,.int .u8 0,.int .u8 0,.int .u8 0,.int .u8 0,.int .u8 0,.int .u8 0,.int .u8 0,.int .u8 0,.int .u8 0,.int .u8 0,.int .u8 0,.int .u8 0,.int .u8 0,.int .u8 0,.int .u8 0,.int .u8 0,.int .u8 0,.int .u8 0,.int .u8 0,.int .u8 0,.int .u8 0,.int .u8 0,.int .u8 0,.int .u8 0,.int .u8 0,.int .u8 0,.int .u8 0,.int .u8 0,.int .u8 0,.int .u8 0,.int .u8 0,.int .u8 0,.int .u8 0,.int .u8 0,.int .u8 0,.int .u8 0,.int .u8 0,.int .u8 0,.int .u8 0,.int .u8 0,.int .u8 0,.int .u8 0,.int .u8 0,.int .u8 0,.int .u8 0,.int .u8 0,.int .u8 0,.int .u8 0,.int .u8 0,.int .u8 0,.int .u8 0,.int .u8 0,.int .u8 0,.int .u8 0,.int .u8 0,.int .u8 0,.int .u8 0,.int .u8 0,.int .u8 0,.int .u8 0,.int .u8 0,.int .u8 0,.int .u8 0,.int .u8 0,.int .u8 0] false)),
(229,tF),
(230,tF),
(231,tF),
(232,tF),
(233,tF),
(234,(TI.mk false 1 8 (.int .u64) [] [.int .u64 0] false)),
(235,tF),
(236,tF),
(237,tF),
(238,(TI.mk false 1 8 .ptr [] [.nilp] false)),
(239,tF),
(240,tF),
(241,tF),
(242,tF),
(243,tF),
(244,(TI.mk false 1 24 (.slice 246) [] [.sl []] false)),
(245,(TI.mk true 2 16 .struct [(0,((3,true))),(1,((3,true)))] [.int .i64 0,.int .i64 0] true)),
(246,(TI.mk true 2 16 .struct [(0,((3,true))),(1,((3,true)))] [.int .i64 0,.int .i64 0] true)),
(247,tF),
(248,(TI.mk false 1 8 .ptr [] [.nilp] false)),
(249,tF),
(250,(TI.mk true 24 24 (.array 24 5) [] [.int .u8 0,.int .u8 0,.int .u8 0,.int .u8 0,.int .u8 0,.int .u8 0,.int .u8 0,.int .u8 0,.int .u8 0,.int .u8 0,.int .u8 0,.int .u8 0,.int .u8 0,.int .u8 0,.int .u8 0,.int .u8 0,.int .u8 0,.int .u8 0,.int .u8 0,.int .u8 0,.int .u8 0,.int .u8 0,.int .u8 0,.int .u8 0] false)),
(251,tF),
(252,(TI.mk false 1 0 .other [] [.any] false)),
(253,tF),
(254,(TI.mk false 1 8 (.int .i64) [] [.int .i64 0] false)),
(255,(TI.mk false 1 0 .other [] [.any] false)),
(256,tF),
(257,(TI.mk false 1 8 .ptr [] [.nilp] false)),
(258,tF),
(259,tF),
(260,(TI.mk false 1 8 .ptr [] [.nilp] false)),
(261,(TI.mk false 1 0 .other [] [.any] false)),
(262,tF),
(263,tF),
(264,(TI.mk false 1 24 (.slice 270) [] [.sl []] false)),
(265,(TI.mk false 1 24 (.slice 273) [] [.sl []] false)),
(266,(TI.mk true 3 56 .struct [(0,((264,true))),(1,((265,true))),(2,((3,true)))] [.sl [],.sl [],.int .i64 0] true)),
(267,(TI.mk true 3 56 .struct [(0,((264,true))),(1,((265,true))),(2,((3,true)))] [.sl [],.sl [],.int .i64 0] true)),
(268,(TI.mk false 1 2 (.int .u16) [] [.int .u16 0] false)),
(269,(TI.mk true 3 6 .struct [(0,((268,true))),(1,((268,true))),(2,((268,true)))] [.int .u16 0,.int .u16 0,.int .u16 0] true)),
(270,(TI.mk true 3 6 .struct [(0,((268,true))),(1,((268,true))),(2,((268,true)))] [.int .u16 0,.int .u16 0,.int .u16 0] true)),
(271,tF),
(272,(TI.mk true 3 12 .struct [(0,((212,true))),(1,((212,true))),(2,((212,true)))] [.int .u32 0,.int .u32 0,.int .u32 0] true)),
(273,(TI.mk true 3 12 .struct [(0,((212,true))),(1,((212,true))),(2,((212,true)))] [.int .u32 0,.int .u32 0,.int .u32 0] true)),
(274,tF),
(275,(TI.mk false 1 0 .other [] [.any] false)),
(276,tF),
(277,tF),
(278,(TI.mk true 20 160 (.array 20 214) [] [.int .u64 0,.int .u64 0,.int .u64 0,.int .u64 0,.int .u64 0,.int .u64 0,.int .u64 0,.int .u64 0,.int .u64 0,.int .u64 0,.int .u64 0,.int .u64 0,.int .u64 0,.int .u64 0,.int .u64 0,.int .u64 0,.int .u64 0,.int .u64 0,.int .u64 0,.int .u64 0] false)),
(279,(TI.mk true 65 65 (.array 65 5) [] [.int .u8 0,.int .u8 0,.int .u8 0,.int .u8 0,.int .u8 0,.int .u8 0,.int .u8 0,.int .u8 0,.int .u8 0,.int .u8 0,.int .u8 0,.int .u8 0,.int .u8 0,.int .u8 0,.int .u8 0,.int .u8 0,.int .u8 0,.int .u8 0,.int .u8 0,.int .u8 0,.int .u8 0,.int .u8 0,.int .u8 0,.int .u8 0,.int .u8 0,.int .u8 0,.int .u8 0,.int .u8 0,.int .u8 0,.int .u8 0,.int .u8 0,.int .u8 0,.int .u8 0,.int .u8 0,.int .u8 0,.int .u8 0,.int .u8 0,.int .u8 0,.int .u8 0,.int .u8 0,.int .u8 0,.int .u8 0,.int .u8 0,.int .u8 0,.int .u8 0,.int .u8 0,.int .u8 0,.int .u8 0,.int .u8 0,.int .u8 0,.int .u8 0,.int .u8 0,.int .u8 0,.int .u8 0,.int .u8 0,.int .u8 0,.int .u8 0,.int .u8 0,.int .u8 0,.int .u8 0,.int .u8 0,.int .u8 0,.int .u8 0,.int .u8 0,.int .u8 0] false)),
(280,(TI.mk false 1 0 .other [] [.any] false)),
(281,tF),
(282,(TI.mk true 3 48 .struct [(0,((9,true))),(1,((9,true))),(2,((106,true)))] [.str [],.str [],.nili] false)),
(283,(TI.mk true 3 48 .struct [(0,((9,true))),(1,((9,true))),(2,((106,true)))] [.str [],.str [],.nili] false)),
(284,tF),
(285,(TI.mk false 1 8 .ptr [] [.nilp] false)),
(286,(TI.mk false 1 8 .ptr [] [.nilp] false)),
(287,tF),
(288,(TI.mk false 1 8 .ptr [] [.nilp] false)),
(289,(TI.mk true 1 16 .struct [(0,((9,true)))] [.str []] true)),
(290,(TI.mk true 1 16 .struct [(0,((9,true)))] [.str []] true)),
(291,(TI.mk true 32 32 (.array 32 5) [] [.int .u8 0,.int .u8 0,.int .u8 0,.int .u8 0,.int .u8 0,.int .u8 0,.int .u8 0,.int .u8 0,.int .u8 0,.int .u8 0,.int .u8 0,.int .u8 0,.int .u8 0,.int .u8 0,.int .u8 0,.int .u8 0,.int .u8 0,.int .u8 0,.int .u8 0,.int .u8 0,.int .u8 0,.int .u8 0,.int .u8 0,.int .u8 0,.int .u8 0,.int .u8 0,.int .u8 0,.int .u8 0,.int .u8 0,.int .u8 0,.int .u8 0,.int .u8 0] false)),
(292,(TI.mk true 64 64 (.array 64 5) [] [.int .u8 0,.int .u8 0,.int .u8 0,.int .u8 0,.int .u8 0,.int .u8 0,.int .u8 0,.int .u8 0,.int .u8 0,.int .u8 0,.int .u8 0,.int .u8 0,.int .u8 0,.int .u8 0,.int .u8 0,.int .u8 0,.int .u8 0,.int .u8 0,.int .u8 0,.int .u8 0,.int .u8 0,.int .u8 0,.int .u8 0,.int .u8 0,.int .u8 0,.int .u8 0,.int .u8 0,.int .u8 0,.int .u8 0,.int .u8 0,.int .u8 0,.int .u8 0,.int .u8 0,.int .u8 0,.int .u8 0,.int .u8 0,.int .u8 0,.int .u8 0,.int .u8 0,.int .u8 0,.int .u8 0,.int .u8 0,.int .u8 0,.int .u8 0,.int .u8 0,.int .u8 0,.int .u8 0,.int .u8 0,.int .u8 0,.int .u8 0,.int .u8 0,.int .u8 0,.int .u8 0,.int .u8 0,.int .u8 0,.int .u8 0,.int .u8 0,.int .u8 0,.int .u8 0,.int .u8 0,.int .u8 0,.int .u8 0,.int .u8 0,.int .u8 0] false)),
(293,(TI.mk true 4 40 .struct [(0,((17,true))),(1,((17,true))),(2,((17,true))),(3,((9,true)))] [.nilp,.nilp,.nilp,.str []] false)),
(294,(TI.mk true 4 40 .struct [(0,((17,true))),(1,((17,true))),(2,((17,true))),(3,((9,true)))] [.nilp,.nilp,.nilp,.str []] false)),
(295,(TI.mk true 0 0 (.array 0 16) [] [] false)),
(296,(TI.mk true 0 0 .struct [(0,((295,false)))] [] false)),
(297,(TI.mk true 0 0 .struct [(0,((295,false)))] [] false)),
(298,(TI.mk false 1 1 (.int .u8) [] [.int .u8 0] false)),
(299,(TI.mk false 1 1 (.int .u8) [] [.int .u8 0] false)),
(300,tF),
(301,(TI.mk false 1 4 (.int .i32) [] [.int .i32 0] false)),
(302,(TI.mk false 1 4 (.int .i32) [] [.int .i32 0] false)),
(303,(TI.mk true 11 48 .struct [(0,((12,true))),(1,((12,true))),(2,((212,true))),(3,((298,true))),(4,((5,true))),(5,((5,true))),(6,((299,true))),(7,((300,true))),(8,((161,true))),(9,((301,true))),(10,((302,true)))] [.int .u64 0,.int .u64 0,.int .u32 0,.int .u8 0,.int .u8 0,.int .u8 0,.int .u8 0,.nilf,.nilp,.int .i32 0,.int .i32 0] false)),
(304,(TI.mk true 11 48 .struct [(0,((12,true))),(1,((12,true))),(2,((212,true))),(3,((298,true))),(4,((5,true))),(5,((5,true))),(6,((299,true))),(7,((300,true))),(8,((161,true))),(9,((301,true))),(10,((302,true)))] [.int .u64 0,.int .u64 0,.int .u32 0,.int .u8 0,.int .u8 0,.int .u8 0,.int .u8 0,.nilf,.nilp,.int .i32 0,.int .i32 0] false))]
def s8:List (Nat×TI)->Nat->Option TI
 |[],_=>none
 |(k,x):: r,t=>bif Nat.beq k t then some x else s8 r t
noncomputable def T:TT:=s8 tab
def yR:Ann:={kinds:=[(10,.S)],hb:=[7,54],no:=[77],nl:=[18,22,33,38,41,46,53,57,63,65,71,80,83,92,97,114,118,127,131],lw:=[6,7,9,10,51,73,79],loops:=[(0,{vals:=[(1,none),(2,none),(5,none),(8,none),(7000,none),(7001,none),(7002,none),(7003,none),(7004,none),(7005,none),(7006,none),(7007,none),(7008,none),(8000,none),(8001,none),(8002,none),(8003,none),(8004,some 12),(8005,none),(8006,none),(8007,none),(8008,none)],locs:=[(6,7000,0),(7,8000,0)],lbs:=[(7000,9),(8000,9)]})],nils:=[(7,[4])]}
def vo:Ann:={kinds:=[(1,.S),(2,.S),(3,.S),(14,.S),(18,.S),(21,.S),(22,.S)],fz:=[26,29,32,83],no:=[25,28,31,75],nl:=[35,36,41,42,47,48,53,54,59,60,65,66,71,78,83,150,151,155,156,160,161],lw:=[1,2,3,14,18,21,22]}
def yS:Ann:={nl:=[3,7]}
def yT:Ann:={kinds:=[(6,.S),(8,.S)],nl:=[10,11,15,16,22,24,25],lw:=[6,8]}
def BL:Ann:={kinds:=[(6,.S),(11,.S),(12,.S)],hb:=[9,35],no:=[47,60,62],nl:=[13,14,19,20,28,32,34,37,42,45,52,54,59,61],lw:=[4,6,9,11,12,49],joins:=[(30,{vals:=vN [2,6,8,5000,5001,5002,5003,5004,5005,5006,5007,5008],locs:=[(4,5000,0)],lbs:=[(5000,9)]})],loops:=[(0,{vals:=[(2,none),(6,none),(8,none),(37,none),(38,none),(39,none),(5000,none),(5001,none),(5002,none),(5003,none),(5004,none),(5005,none),(5006,none),(5007,none),(5008,none),(10000,none),(10001,none),(10002,none),(10003,none),(10004,none),(10005,some 6)],locs:=[(4,5000,0),(9,10000,0)],lbs:=[(5000,9),(10000,6)]})],nils:=[(9,[5])]}
def BM:Ann:={nl:=[3,7],lw:=[2]}
def BN:Ann:={nl:=[14,15]}
def yU:Ann:={kinds:=[(4,.S)],nl:=[6,11,16,22,23,31,36,38],lw:=[4],loops:=[(0,{vals:=vN [1,16,17,18]})]}
def BO:Ann:={nl:=[6,10,15,16,22,24,28,30]}
def yV:Ann:={kinds:=[(9,.S)],hl:=[37],nl:=[11,18,21,37,41],lw:=[4,7,9,28,29],loops:=[(0,{vals:=vN [31,32,33,5000,5001,5002,5003,5004,8000,8001,8002,8003,8004],locs:=[(4,5000,0),(7,8000,0)],lbs:=[(5000,5),(8000,5)]})],ords:=[(5,[0,1,3,4,2,6,5,7,8,9])]}
def yW:Ann:={kinds:=[(5,.S),(8,.S)],ha:=[54],hb:=[6,15,33],no:=[46,53],nl:=[9,14,17,22,24,27,29,32,35,40,44],lw:=[2,3,5,6,8,48,55],loops:=[(0,{vals:=vN [17,18,19,3000,3001,4000,4001],locs:=[(2,3000,0),(3,4000,0)],lbs:=[(3000,2),(4000,2)]}),(2,{vals:=[(17,none),(18,none),(19,none),(35,none),(36,none),(37,none),(3000,none),(3001,none),(4000,none),(4001,none),(7000,none),(7001,some 2),(7002,none),(7003,none),(7004,none)],locs:=[(2,3000,0),(3,4000,0),(6,7000,0)],lbs:=[(3000,2),(4000,2),(7000,5)]})],ords:=[(8,[0,1,2,3,5,6,8,4,7,9])],nils:=[(6,[1])]}
def yX:Ann:={nl:=[6,8,12,14,19,21]}
def yY:Ann:={nl:=[3]}
def yZ:Ann:={kinds:=[(8,.S)],nl:=[13,18,32,37,40,44,50,56,62,68,74,77,82,88,94,100,102,109,112,115,121,126,133],lw:=[8],joins:=[(116,{vals:=vN [1,9,10]})],loops:=[(0,{vals:=vN [1,3,13,14,15]}),(2,{vals:=vN [1,6,32,33,34]})]}
def y0:Ann:={kinds:=[(4,.S)],nl:=[8,18,21,23,28,34,40,46,56,59,63,68,74,80,85,91,97,103],lw:=[4],loops:=[(0,{vals:=vN [1,3]}),(2,{vals:=vN [1,5]})]}
def y6:Ann:={nl:=[5,8,12,13]}
def BP:Ann:={no:=[6,10],nl:=[7],lw:=[4]}
def BQ:Ann:={iso:=false,ha:=[20],hb:=[5],no:=[19],nl:=[17],lw:=[2,3,21],loops:=[(0,{vals:=vN [0,4,3000,3001,4000,4001],locs:=[(2,3000,0),(3,4000,0)],lbs:=[(3000,2),(4000,2)]})]}
def BR:Ann:={kinds:=[(4,.B),(8,.S),(10,.S)],no:=[16,27,41,46,68,74,80],nl:=[11,15,20,25,32,38,40,44,49,52,57,62,63,67,72,78,84],lw:=[8,10],joins:=[(67,{vals:=[(4,none)]})],loops:=[(0,{vals:=vN [1,4,20,21,22]}),(2,{vals:=vN [1,4,32,33,34]}),(4,{vals:=vN [1,4,57,58,59]})]}
def BS:Ann:={kinds:=[(4,.B)],nl:=[5,8]}
def y7:Ann:={nl:=[9,21,25],loops:=[(0,{vals:=vN [1,2,5,6]})]}
def y8:Ann:={nl:=[6,12,16,21,25],loops:=[(0,{vals:=vN [1,3]})]}
def y9:Ann:={nl:=[6,8,11,15]}
def za:Ann:={kinds:=[(7,.S),(8,.S)],nl:=[11,16,18,20,27,28,32],lw:=[4,7,8],loops:=[(0,{vals:=vN [3,11,12,13,5000,5001,5002,5003,5004],locs:=[(4,5000,0)],lbs:=[(5000,5)]})]}
def BU:Ann:={kinds:=[(5,.S)],hb:=[3,14],no:=[26,34],nl:=[7,16,21,25,32],lw:=[2,3,5,28,36],loops:=[(1,{vals:=[(16,none),(17,none),(18,none),(3000,none),(3001,none),(3002,none),(3003,none),(3004,none),(3005,none),(4000,none),(4001,none),(4002,none),(4003,none),(4004,some 1),(4005,some 6)],locs:=[(2,3000,0),(3,4000,0)],lbs:=[(3000,6),(4000,6)]})],nils:=[(3,[4,5])]}
def zb:Ann:={nl:=[3]}
def zc:Ann:={}
def zd:Ann:={nl:=[4,9,15,21,26]}
def BV:Ann:={nl:=[4,6,8,13,15,17]}
def BW:Ann:={no:=[20],nl:=[6,8,11,13,16,18]}
def BX:Ann:={iso:=false,hl:=[12],ha:=[14],hb:=[14],nl:=[12]}
def uU:Ann:={nl:=[15],loops:=[(0,{vals:=vN [0,1,7,8]})]}
def uV:Ann:={nl:=[5,6]}
def oN:Ann:={iso:=false,ha:=[7]}
def ry:Ann:={kinds:=[(1,.L),(4,.S)],nl:=[16,21],lw:=[2,4,8],loops:=[(0,{vals:=vN [10,11,12,2000,2001,3000,3001],locs:=[(1,2000,0),(2,3000,0)],lbs:=[(2000,2),(3000,2)]})]}
def rA:Ann:={nl:=[6,8]}
def rB:Ann:={}
def uW:Ann:={kinds:=[(8,.S),(9,.S)],nl:=[21,25,27,28],lw:=[8,9],loops:=[(0,{vals:=vN [1,2,15,16,17]})]}
def uX:Ann:={kinds:=[(6,.S)],nl:=[11,16,21,27,31,37,43,45,53,55,60,66],lw:=[6],loops:=[(0,{vals:=vN [1,2,37,38,39]})]}
def uY:Ann:={kinds:=[(7,.S)],nl:=[14,17,21,27,33],lw:=[7],loops:=[(0,{vals:=vN [0,1,5,9,10,11]})]}
def uZ:Ann:={nl:=[3]}
def vd:Ann:={kinds:=[(6,.S)],nl:=[12,13],lw:=[6],loops:=[(0,{vals:=vN [0,1,7,8,9]})]}
def ve:Ann:={nl:=[6,8,12]}
def vf:Ann:={nl:=[18,26],loops:=[(0,{vals:=vN [0,3]})]}
def vg:Ann:={nl:=[3,7]}
def vj:Ann:={nl:=[17],loops:=[(0,{vals:=vN [0,3]})]}
def vl:Ann:={}
def zH:Ann:={iso:=false,hl:=[15],nl:=[11,15],joins:=[(15,{vals:=vN [0,5,6,7,8]})],loops:=[(0,{vals:=vN [0,6,7,8]})]}
def zI:Ann:={iso:=false,no:=[3]}
def zJ:Ann:={iso:=false,no:=[7,14,19,24],nl:=[5,11]}
def zK:Ann:={iso:=false,no:=[17,25],nl:=[9,20,28]}
def zL:Ann:={iso:=false,no:=[9,14,21,31,47,51],nl:=[7,13,18,25,28,38,40,55],joins:=[(7,{vals:=vN [0,3]}),(29,{vals:=vN [0,3]})],loops:=[(0,{vals:=vN [0,3,33,34,35]})]}
def zM:Ann:={iso:=false,kinds:=[(5,.S)],no:=[16,21],nl:=[12,20,25],lw:=[5],joins:=[(14,{vals:=vN [0,5,6,7,8]})],loops:=[(0,{vals:=vN [0,6,7,8]})]}
def zN:Ann:={iso:=false,kinds:=[(5,.S)],no:=[16],nl:=[12,19],lw:=[5],joins:=[(14,{vals:=vN [0,5,6,7,8]})],loops:=[(0,{vals:=vN [0,6,7,8]})]}
def zO:Ann:={iso:=false}
def vp:Ann:={}
def vq:Ann:={}
def vt:Ann:={nl:=[3]}
def zP:Ann:={nl:=[11],loops:=[(0,{vals:=vN [3,6,7,8]})]}
def zQ:Ann:={}
def rC:Ann:={}
def vu:Ann:={kinds:=[(5,.S),(8,.S)],nl:=[13,18,22,31,37,39,44,46,51,53,58,61,66,71,76,77],lw:=[5,8],loops:=[(0,{vals:=vN [1,71,72,73]})]}
def vw:Ann:={kinds:=[(4,.S)],nl:=[8,10,17,19],lw:=[4]}
def vz:Ann:={nl:=[9,21,24],loops:=[(0,{vals:=vN [1,2,5,6]})]}
def vA:Ann:={nl:=[7,17,20,25,31,34,38,43,49],loops:=[(0,{vals:=vN [1,3]}),(2,{vals:=vN [1,4]})]}
def vB:Ann:={nl:=[15],loops:=[(0,{vals:=vN [0,1,7,8]})]}
def zR:Ann:={iso:=false,hl:=[11],ha:=[14],hb:=[14],no:=[13],nl:=[11]}
def zS:Ann:={kinds:=[(5,.S)],nl:=[11,13,15,18,20,23],lw:=[5],joins:=[(24,{vals:=vN [23,24]})],loops:=[(0,{vals:=vN [1,6,7,8]})]}
def zT:Ann:={iso:=false,no:=[27,48,57,64,71,78,89,108,115,124,134,143],nl:=[20,22,31,33,38,40,46,54,63,70,77,82,84,93,95,101,103,107,114,119,121,128,130,140,147,150],joins:=[(15,{vals:=vN [0,2,3,5,8]})],loops:=[(1,{vals:=vN [0,5,134,135,136]})]}
def zU:Ann:={}
def zV:Ann:={iso:=false,hl:=[6],nl:=[6]}
def vC:Ann:={}
def vD:Ann:={loops:=[(0,{vals:=vN [0,1,5]})]}
def vE:Ann:={}
def vF:Ann:={}
def vG:Ann:={nl:=[15],loops:=[(0,{vals:=vN [0,1,7,8]})]}
def zW:Ann:={}
def vH:Ann:={nl:=[6,8,11,16,23,30,36,45,54,58,63,65],lw:=[2,4,17,24,31,37,46,55,66,67],joins:=[(12,{vals:=vN [1,11,12,3000,3001,3002,3003,3004,3005,5000,5001,5002,5003,5004,5005],locs:=[(2,3000,0),(4,5000,0)],lbs:=[(3000,6),(5000,6)]}),(19,{vals:=vN [1,11,19,3000,3001,3002,3003,3004,3005,5000,5001,5002,5003,5004,5005],locs:=[(2,3000,0),(4,5000,0)],lbs:=[(3000,6),(5000,6)]}),(26,{vals:=vN [1,11,26,3000,3001,3002,3003,3004,3005,5000,5001,5002,5003,5004,5005],locs:=[(2,3000,0),(4,5000,0)],lbs:=[(3000,6),(5000,6)]})]}
def vI:Ann:={nl:=[6,10,14,20,24,30,34,39,44,54,59,63,67,73,80,86,96,100,106],joins:=[(47,{vals:=vN [1,6,47]})],loops:=[(1,{vals:=vN [1,80,81,82]})]}
def zX:Ann:={no:=[8]}
def zY:Ann:={}
def zZ:Ann:={iso:=false,no:=[12,25,29,40,48,66,72,75,82],nl:=[9,15,21,33,36,43,47,51,58,62,71,79],joins:=[(23,{vals:=vN [0,3,4,5,15,16,17]}),(44,{vals:=vN [0,3]}),(52,{vals:=vN [0,3]})],loops:=[(0,{vals:=vN [0,3,15,16,17]}),(2,{vals:=vN [0,3,53,54,55]})]}
def z6:Ann:={nl:=[15],loops:=[(0,{vals:=vN [0,1,7,8]})]}
def z7:Ann:={}
noncomputable def jJ:List (Nat×(Func×Ann)):=[
(12,(Tryz.f12,yR)),
(14,(Tryz.f14,vo)),
(16,(Tryz.f16,yS)),
(17,(Tryz.f17,yT)),
(19,(Tryz.f19,BL)),
(23,(Tryz.f23,BM)),
(25,(Tryz.f25,BN)),
(27,(Tryz.f27,yU)),
(28,(Tryz.f28,BO)),
(37,(Tryz.f37,yV)),
(42,(Tryz.f42,yW)),
(44,(Tryz.f44,yX)),
(47,(Tryz.f47,yY)),
(48,(Tryz.f48,yZ)),
(51,(Tryz.f51,y0)),
(56,(Tryz.f56,y6)),
(57,(Tryz.f57,BP)),
(58,(Tryz.f58,BQ)),
(59,(Tryz.f59,BR)),
(60,(Tryz.f60,BS)),
(62,(Tryz.f62,y7)),
(63,(Tryz.f63,y8)),
(64,(Tryz.f64,y9)),
(65,(Tryz.f65,za)),
(68,(Tryz.f68,BU)),
(73,(Tryz.f73,zb)),
(76,(Tryz.f76,zc)),
(77,(Tryz.f77,zd)),
(78,(Tryz.f78,BV)),
(79,(Tryz.f79,BW)),
(83,(Tryz.f83,BX)),
(101,(Tryz.f101,uU)),
(102,(Tryz.f102,uV)),
(108,(Tryz.f108,rA)),
(109,(Tryz.f109,rB)),
(111,(Tryz.f111,uW)),
(116,(Tryz.f116,uX)),
(117,(Tryz.f117,uY)),
(118,(Tryz.f118,uZ)),
(119,(Tryz.f119,vd)),
(125,(Tryz.f125,ve)),
(126,(Tryz.f126,vf)),
(127,(Tryz.f127,vg)),
(128,(Tryz.f128,vj)),
(131,(Tryz.f131,vl)),
(134,(Tryz.f134,zH)),
(135,(Tryz.f135,zI)),
(136,(Tryz.f136,zJ)),
(137,(Tryz.f137,zK)),
(138,(Tryz.f138,zL)),
(139,(Tryz.f139,zM)),
(140,(Tryz.f140,zN)),
(141,(Tryz.f141,zO)),
(146,(Tryz.f146,vp)),
(148,(Tryz.f148,vq)),
(149,(Tryz.f149,vt)),
(150,(Tryz.f150,zP)),
(151,(Tryz.f151,zQ)),
(169,(Tryz.f169,rC)),
(178,(Tryz.f178,vu)),
(186,(Tryz.f186,vw)),
(187,(Tryz.f187,vz)),
(188,(Tryz.f188,vA)),
(189,(Tryz.f189,vB)),
(190,(Tryz.f190,zR)),
(191,(Tryz.f191,zS)),
(192,(Tryz.f192,zT)),
(194,(Tryz.f194,zU)),
(195,(Tryz.f195,zV)),
(199,(Tryz.f199,vC)),
(200,(Tryz.f200,vD)),
(201,(Tryz.f201,vE)),
(202,(Tryz.f202,vF)),
(204,(Tryz.f204,vG)),
(205,(Tryz.f205,zW)),
(226,(Tryz.f226,vH)),
(227,(Tryz.f227,vI)),
(233,(Tryz.f233,zX)),
(234,(Tryz.f234,zY)),
(235,(Tryz.f235,zZ)),
(238,(Tryz.f238,z6)),
(257,(Tryz.f257,z7))]
def nM:List (Nat×(Func×Ann))->Nat->Option (Func×Ann)
 |[],_=>none
 |(k,x):: r,t=>bif Nat.beq k t then some x else nM r t
def own:FuncId->Option Nat:=fun f=>bif Nat.beq f 163 then some 3 else none
noncomputable def other:FuncId->Option ((FuncId->List AV->M AV)->List AV->M AV):=fun f=>
 bif Nat.beq f 87 then some (dW 5)else bif Nat.beq f 103 then some (cB T 54)else bif Nat.beq f 104 then some (ic)else bif Nat.beq f 107 then some (eq 5 108)else bif Nat.beq f 147 then some (fP)else bif Nat.beq f 152 then some (gd [(104,2),(149,3)])else bif Nat.beq f 153 then some (tc)else bif Nat.beq f 181 then some (ig)else bif Nat.beq f 193 then some (lj)else none
noncomputable def pg:Pg:={ T:=T,funcs:=nM jJ,own:=own,other:=other,nw:=fun f=>bif Nat.beq f 103 then true else false }
def hOther:cH pg:=by
 intro f E hE call calls hc;have h0:other f=some E:=hE;unfold other at h0;rcases cX h0 with rfl|h0
 ·exact bh.const _
 rcases cX h0 with rfl|h0
 ·exact lG _ _ _ _
 rcases cX h0 with rfl|h0
 ·exact bh.const _
 rcases cX h0 with rfl|h0
 ·exact bh.const _
 rcases cX h0 with rfl|h0
 ·exact bh.const _
 rcases cX h0 with rfl|h0
 ·exact bh.const _
 rcases cX h0 with rfl|h0
 ·exact bh.const _
 rcases cX h0 with rfl|h0
 ·exact bh.const _
 rcases cX h0 with rfl|h0
 ·exact bh.const _
 cases h0
end Go.Proofs.YteemeakjlfnapaaGreatDoor
namespace Go.Proofs.YteemeakjlfnapaaGreatDoor
open Go Go.Av
set_option maxRecDepth 1000000
instance dr0:Dr:=⟨False⟩
def qT{p:Prop}(h:Dr.on):p:=False.elim h
def Bb:(tab.map fun x=>Bc Tryz.prog x.1)=tab.map fun x=>some x.2:=by kernel_rfl
theorem nN:(l:List (Nat×TI))->(t:Nat)->(ti:TI)->s8 l t=some ti->(t,ti)∈l
 |[],t,ti,h=>by cases h
 | (k,x):: r,t,ti,h=>by
  simp only[s8]at h;cases hk:Nat.beq k t with
  |true=>
   rw[hk]at h;simp only[El,Ek]at h
   have:=Eo hk
   subst this h;exact E9
  |false=>
   rw[hk]at h;exact Fq _ (nN r t ti h)
theorem ey{α β:Type}{f g:α->β}:{l:List α} ->l.map f=l.map g->∀x∈l,f x=g x
 |[],_,x,hx=>by cases hx
 |a:: l,h,x,hx=>by
  simp only[EN,Gx]at h;rcases EB.1 hx with rfl|hx
  ·exact h.1
  ·exact ey h.2 x hx
def tok:TOK Tryz.prog T:=⟨fun t ti h=>ey Bb (t,ti) (nN tab t ti h),by kernel_rfl⟩
def pF:(jJ.map fun x=>Tryz.prog.funcs[x.1]?)=jJ.map fun x=>some x.2.1:=by kernel_rfl
def iV:(jJ.map fun x=>x.2.1.name== "runtime.NumGoroutine")=jJ.map fun _=>false:=by kernel_rfl
theorem jZ:(l:List (Nat×(Func×Ann)))->(t:Nat)->(x:Func×Ann)->nM l t=some x->(t,x)∈l
 |[],t,ti,h=>by cases h
 | (k,x):: r,t,ti,h=>by
  simp only[nM]at h;cases hk:Nat.beq k t with
  |true=>
   rw[hk]at h;simp only[El,Ek]at h
   have:=Eo hk
   subst this h;exact E9
  |false=>
   rw[hk]at h;exact Fq _ (jZ r t ti h)
def qx:∀f fn a,pg.funcs f=some (fn,a)->Tryz.prog.funcs[f]? = some fn/\(fn.name== "runtime.NumGoroutine")=false:=by
 intro f fn a h
 have:=jZ jJ f (fn,a) h
 exact⟨ey pF _ this,ey iV _ this⟩
end Go.Proofs.YteemeakjlfnapaaGreatDoor
namespace Go.Proofs.YteemeakjlfnapaaGreatDoor
open Go Go.Av Go.RowKit
set_option maxRecDepth 100000
def below_grow(w:World)(k:Nat)(os:Array Obj):Below w.heap.size w (Go.Sort.grow (w.drewN k) os):=by
 refine (show Below w.heap.size w (w.drewN k)from⟨rfl,rfl,rfl,En _,fun _ _=>rfl⟩).trans ⟨rfl,rfl,rfl,?_,fun b hb=>?_⟩
 ·simp[Go.Sort.grow]
 ·have hb':b<(w.drewN k).heap.size:=hb;show ((w.drewN k).heap++os)[b]? = _;rw[FM hb']
def yM{w:World}(h:GOKw w):Lib.TabIs Tryz.prog w "internal/strconv.uint64pow10" .u64 Lib.pow10Tab:=by
 obtain⟨t,fr,hp⟩:=h.pow
 have hn:Tryz.prog.globalNamed "internal/strconv.uint64pow10" = some 3:=by kernel_rfl
 unfold Lib.TabIs World.var?;rw[hn];simp only[FX,hp]
def AX(call:FuncId->List AV->M AV)(args:List AV)(h:Hp)(S:ar)(β:List a6)(w:World)(vs:List Value)(hr:tc call args h≠.fail)(hg:mU β h w)(hw:Wf S w)(hh:bO S β w h)(hv:aH S β args vs):
  Calls Tryz.prog 153 vs.toArray w (cM none S β h w (tc call args h)):=by
 unfold tc at hr |-;split at hr
 ·rename_i n;simp only[aH,VR]at hv;obtain⟨v,r,rfl,rfl,rfl⟩:=hv;cases hc:(decide (-9223372036854775808<=n)&&decide (n<=9223372036854775807))with
  |false=>rw[hc]at hr;exact absurd rfl hr
  |true=>
   simp only[Em,Ew]at hc;simp only[El];refine (Any.strconv_Itoa Ed n hc.1 hc.2 w (yM hg.1)).mono ?_;rintro e w' ⟨rfl,k,os,rfl⟩;exact dl hw hh (below_grow w k os) qT (by simp only[VR];exact⟨_,rfl,by rw[wG hc.1 hc.2]⟩)
 ·exact absurd rfl hr
def pB{S:ar}{β:List a6}{s:List UInt8}{r:List Value}{l:List AV}(hv:aH S β (.str s:: l) r):∃x r',r= .string x:: r'/\x.data.toList=s/\aH S β l r':=by
 simp only[aH,VR]at hv;obtain⟨v,r',rfl,⟨x,rfl,hx⟩,h⟩:=hv;exact⟨x,r',rfl,hx,h⟩
def AU(call:FuncId->List AV->M AV)(args:List AV)(h:Hp)(S:ar)(β:List a6)(w:World)(vs:List Value)(hr:fP call args h≠.fail)(hg:mU β h w)(hw:Wf S w)(hh:bO S β w h)(hv:aH S β args vs):
  Calls Tryz.prog 147 vs.toArray w (cM none S β h w (fP call args h)):=by
 unfold fP at hr |-;split at hr
 ·rename_i s t;obtain⟨x,r,rfl,hx,hv⟩:=pB hv;obtain⟨y,r,rfl,hy,hv⟩:=pB hv;simp only[aH]at hv;subst hv;cases hc:decide (s.length<4294967281)with
  |false=>rw[hc]at hr;exact absurd rfl hr
  |true=>
   simp only[El];have hlen:x.size=s.length:=by rw[<- hx,Fa];rfl
   obtain⟨m,hm⟩:=hg.1.max;refine (Any.strings_Contains Ef x y m w (by have:=F7 hc;omega) hm).mono ?_;rintro e w' ⟨rfl,rfl⟩;exact dl hw hh (Below.refl _ _) qT (by simp only[VR];rw[hx,hy])
 ·exact absurd rfl hr
def yL{w:World}(h:GOKw w):Lib.TabIs Tryz.prog w "strings.asciiSpace" .u8 Lib.asciiSpaceTab:=by
 obtain⟨t,fr,hp⟩:=h.asc
 have hn:Tryz.prog.globalNamed "strings.asciiSpace" = some 0:=by kernel_rfl
 unfold Lib.TabIs World.var?;rw[hn];simp only[FX,hp]
def A0(call:FuncId->List AV->M AV)(args:List AV)(h:Hp)(S:ar)(β:List a6)(w:World)(vs:List Value)(hr:lj call args h≠.fail)(hg:mU β h w)(hw:Wf S w)(hh:bO S β w h)(hv:aH S β args vs):
  Calls Tryz.prog 193 vs.toArray w (cM none S β h w (lj call args h)):=by
 unfold lj at hr |-;split at hr
 ·rename_i s;obtain⟨x,r,rfl,hx,hv⟩:=pB hv;simp only[aH]at hv;subst hv;cases hc:(decide (s.length<4294967281)&&s.all (fun b=>decide (b.toNat<128)))with
  |false=>rw[hc]at hr;exact absurd rfl hr
  | true=>
   simp only[El];rw[Em]at hc;have hlen:x.size=s.length:=by rw[<- hx,Fa];rfl
   have hasc:∀(j:Nat)(b:UInt8),x.data.toList[j]? = some b->b.toNat<128:=fun j b hj=>by
    rw[hx]at hj
    have:=Et.1 hc.2 b (FC hj)
    exact F7 this
   refine (Any.strings_Fields Ee (by kernel_rfl) (by kernel_rfl) x w (by have:=F7 hc.1;omega) hasc (yL hg.1)).mono ?_;rintro e w' ⟨rfl,rfl⟩;have hl:((Lib.fields x.data.toList).map fun l=>(⟨l.toArray⟩:ByteArray)).map (·.data.toList)=Lib.fields s:=by
    rw[hx,FP]
    conv=>rhs;rw[<- List.map_id (Lib.fields s)]
    exact FW fun l _=>rfl
   have:=xu S β w.heap.size ((Lib.fields x.data.toList).map fun l=>(⟨l.toArray⟩:ByteArray)) _ hl
   simp only[FP,ET]at this;exact tW hw hh ((Below.refl _ _).alloc (En _) _) qT (Row.new w _ _) (En _) this
 ·exact absurd rfl hr
def ze:∃j,Tryz.prog.info? 104=some j/\j.size=2:=by
 have h:(Tryz.prog.info? 104).map (·.size)=some 2:=by kernel_rfl
 obtain⟨j,h1,h2⟩:=Fl.1 h;exact⟨j,h1,h2⟩
set_option maxHeartbeats 1000000 in
def xQ(b:Nat)(w:World)(h0:w.cell? ⟨b,0,none⟩=some (.pointer (some ⟨b,0,none⟩))):
  Calls Tryz.prog 152 #[.pointer (some ⟨b,0,none⟩)] w fun e w'=>e= .returned (.tuple #[])/\w'=w:=by
 obtain⟨j,hj,_⟩:=ze
 go_enter Tryz.func152,Tryz.ntmps152
 go_wp2
 rw[Lib.run_neq_ptr_same w _ Tryz.underlying101 hj]
 go_wp2
 go_end0
 exact⟨rfl,rfl⟩
set_option maxHeartbeats 1000000 in
def vU(b T n:Nat)(w:World)(h0:w.cell? ⟨b,0,none⟩=some (.pointer none))(hsh:w.shape? b=some (T,n))(hn:0<n)(hfz:w.frozen? ⟨b,0,none⟩=false)(hlies:liesAt Tryz.prog Tryz.prog.depth T (n / Tryz.prog.cellsOf T) 0 104 1=true):
  Calls Tryz.prog 152 #[.pointer (some ⟨b,0,none⟩)] w fun e w'=>e= .returned (.tuple #[])/\w'=w.setCell ⟨b,0,none⟩ (.pointer (some ⟨b,0,none⟩)):=by
 obtain⟨j,hj,hjs⟩:=ze
 go_enter Tryz.func152,Tryz.ntmps152
 go_wp2
 rw[Lib.run_to_unsafe w ⟨b,0,none⟩ Tryz.underlying101 Tryz.underlying198 hj (by rw[hjs];decide) hsh hn];simp only[Result.andThen];rw[Oper.upon_value]
 go_wp2
 rw[run_callFunc_extern Tryz.func206 (by kernel_rfl) (by kernel_rfl) (by kernel_rfl) (e:=Extern.AbiNoEscape.same) (by kernel_rfl)];rw[Lib.run_noEscape];simp only[Result.andThen];rw[Oper.upon_value]
 go_wp2
 rw[Lib.run_from_unsafe w ⟨b,0,none⟩ Tryz.underlying198 Tryz.underlying101 hj hsh hlies];simp only[Result.andThen];rw[Oper.upon_value]
 go_wp2
 go_end0
 exact⟨rfl,rfl⟩
def tU:Tryz.prog.cellsOf 5=1:=by kernel_rfl
set_option maxHeartbeats 2000000 in
def Ba(b g cap:Nat)(cur:Array Value)(l:List UInt8)(w:World)(h0:l≠[])(hlt:l.length<=cap)(hc1:w.cell? ⟨b,1,none⟩=some (.slice (some ⟨g,0,none⟩) l.length cap))(hg:w.heap[g]? = some (.cells cur 5 (0,0)))(hcm:l.length<=140737488355328)(hsz:l.length<=cur.size)(hcells:∀(j:Nat)(x:UInt8),l[j]? = some x->cur[j]? = some (Value.int .u8 x.toNat)):
  Calls Tryz.prog 87 #[.pointer (some ⟨b,0,none⟩)] w fun e w'=>e= .returned (.string ⟨l.toArray⟩)/\w'=w.drew.freeze ⟨g,0,none⟩ l.length:=by
 have hl0:l.length≠0:=by simpa using h0
 have c1:w.drew.cell? ⟨b,1,none⟩=some (.slice (some ⟨g,0,none⟩) l.length cap):=hc1;have hSD:(Builtin.unsafeSliceData_ #[102] 161 #[.slice (some ⟨g,0,none⟩) l.length cap]).run Tryz.prog w.drew= .ok (.pointer (some ⟨g,0,none⟩)) w.drew:=
  Lib.run_unsafeSliceData_row _ _ _ _ _ _ (by omega)
 have hUS:(Builtin.unsafeString_ #[161,3] 9 #[.pointer (some ⟨g,0,none⟩),.int .i64 l.length]).run Tryz.prog w.drew= .ok (.string ⟨l.toArray⟩) (w.drew.freeze ⟨g,0,none⟩ l.length):=by
  refine Lib.run_unsafeString_row w.drew 161 3 9 5 Tryz.underlying161 tU g cur.size (by have hg':w.drew.heap[g]? = some (.cells cur 5 (0,0)):=hg;simp[World.shape?,hg']) l h0 hsz (by omega) ?_;intro j x hx;have hg':w.drew.heap[g]? = some (.cells cur 5 (0,0)):=hg;rw[addr_add,ED,cell_of_row _ _ _ _ _ _ hg'];exact hcells j x hx
 go_enter Tryz.func87,Tryz.ntmps87
 go_wp2
 have mixed:Tryz.prog.follows Departure.mixedOrders=true:=by kernel_rfl
 go_region_o
 all_goals (go_wp2;go_ret;exact⟨rfl,rfl⟩)
set_option maxHeartbeats 2000000 in
theorem A9(b:Nat)(w:World)(hc1:w.cell? ⟨b,1,none⟩=some (.slice none 0 0)):
  Calls Tryz.prog 87 #[.pointer (some ⟨b,0,none⟩)] w fun e w'=>e= .returned (.string ⟨#[]⟩)/\w'=w.drew:=by
 have hUS:=fun W q=>Lib.run_unsafeString_none (P:=Tryz.prog) W 161 3 9 q;have c1:w.drew.cell? ⟨b,1,none⟩=some (.slice none 0 0):=hc1;have hSD:(Builtin.unsafeSliceData_ #[102] 161 #[.slice none 0 0]).run Tryz.prog w.drew= .ok (.pointer none) w.drew:=rfl
 go_enter Tryz.func87,Tryz.ntmps87
 go_wp2
 have mixed:Tryz.prog.follows Departure.mixedOrders=true:=by kernel_rfl
 go_region_o
 all_goals (go_wp2;go_ret;exact⟨rfl,rfl⟩)
def sK{P:Program}{fits:TypeId->Bool}{d:Nat}{e:TypeId}{c c' off n:Nat}(hc:c<=c')(h:rowAt P fits d e c off n=true):rowAt P fits d e c' off n=true:=by
 cases d with
 |zero=>simp[rowAt]at h
 | succ d=>
  simp only[rowAt]at h|-;split at h
  ·cases h
  ·rename_i hs;rw[if_neg hs];simp only[Ft,Em,Ew]at h|-;rcases h with h|h
   ·exact .inl ⟨⟨h.1.1,by omega⟩,h.2⟩
   ·exact .inr ⟨by omega,h.2⟩
theorem gU{P:Program}{u:TypeId}{e:TypeId}{c c' off:Nat}(hc:c<=c'):∀(d:Nat)(u:TypeId)(n:Nat),liesAt P d e c off u n=true->liesAt P d e c' off u n=true
 |0,u,n,h=>by simp[liesAt]at h
 | d+1,u,n,h=>by
  simp only[liesAt,Ft]at h|-;rcases h with h|h
  ·exact .inl (sK hc h)
  ·refine .inr ?_;split at h
   ·exact gU (u:=u) hc d _ _ h
   ·cases h
def Cv:liesAt Tryz.prog Tryz.prog.depth 104 1 0 104 1=true:=by kernel_rfl
def Cw:liesAt Tryz.prog Tryz.prog.depth 149 1 0 104 1=true:=by kernel_rfl
def Ac:Tryz.prog.cellsOf 104=2:=by kernel_rfl
def Ai:Tryz.prog.cellsOf 149=3:=by kernel_rfl
def rb{w:World}{b:Nat}{z:Array Value}{t:TypeId}(hb:w.heap[b]? = some (.cells z t (0,0)))(v:Value):w.setCell ⟨b,0,none⟩ v=w.setRow b (z.setIfInBounds 0 v):=by
 unfold World.setCell World.setRow;congr 1;apply Array.ext (by simp);intro i h1 h2;simp only[Array.getElem_modify];split
 ·rename_i hi;subst hi;obtain⟨hlt,hk⟩:=EQ.1 hb;rw[hk];rfl
 ·rfl
def AW(call:FuncId->List AV->M AV)(args:List AV)(h:Hp)(S:ar)(β:List a6)(w:World)(vs:List Value)(hr:gd [(104,2),(149,3)] call args h≠.fail)(hg:mU β h w)(hw:Wf S w)(hh:bO S β w h)(hv:aH S β args vs):
  Calls Tryz.prog 152 vs.toArray w (cM none S β h w (gd [(104,2),(149,3)] call args h)):=by
 unfold gd at hr |-;cases hpo:uj args with
 |none=>rw[hpo]at hr;exact absurd rfl hr
 | some l=>
  rw[hpo]at hr
  have:=qz hpo
  subst this;simp only[aH,VR]at hv;obtain⟨_,_,rfl,⟨bk,hβ,hb0,rfl⟩,rfl⟩:=hv;obtain⟨b,nb⟩:=bk;dsimp only at hr |-;have hh0:=hh;obtain⟨hlen,ω,hhr⟩:=hh;cases hl:h[l]? with
  |none=>rw[hl]at hr;exact absurd rfl hr
  | some cs=>
   rw[hl]at hr;dsimp only at hr |-;cases hc:C5 [(104,2),(149,3)] l cs with
   |none=>rw[hc]at hr;exact absurd rfl hr
   | some cs'=>
    dsimp only;rcases xP hc with⟨t,x,r,rfl,rfl,n,hm,hn⟩|⟨r,rfl,rfl⟩
    ·obtain⟨z,j1,j2,j3,j4,j5⟩:=hhr.cells hl (by simp) hβ hb0;obtain⟨y,hy⟩:=hhr.tag hl ⟨_,E9,rfl⟩ hβ;cases j2.inj ⟨t,hy⟩;have hsz:r.length+2<=z.size:=by
      have:=j4.length
      simp at this;omega
     have hz0:z[0]? = some (.pointer none):=by
      have:=j4.get (i:=0) (c:=.nilb t) rfl
      obtain⟨v,h1,h2⟩:=this;simp only[VR]at h2;subst h2;rw[Ev]at h1;split at h1
      ·simpa using h1
      ·cases h1
     have hlies:liesAt Tryz.prog Tryz.prog.depth t (z.size / Tryz.prog.cellsOf t) 0 104 1=true:=by
      simp only[EB,E7,List.not_mem_nil,or_false]at hm;rcases hm with⟨rfl,rfl⟩|⟨rfl,rfl⟩
      ·rw[Ac];exact gU (u:=104) (by omega) _ _ _ Cv
      ·rw[Ai];exact gU (u:=104) (by omega) _ _ _ Cw
     refine (vU b t z.size w (by rw[cell_of_row _ _ _ _ _ _ hy];exact hz0) (by simp[World.shape?,hy]) (by omega) (by simp[World.frozen?,hy]) hlies).mono ?_;rintro e w' ⟨rfl,rfl⟩;rw[rb hy];refine rV hg hw hh0 hl (by simp) hβ j2 (by simp) ?_ (fun t' ht=>?_)
     ·have hzl:z.toList= .pointer none:: z.toList.drop 1:=by
       have:=EU (l:=z.toList) (i:=0) (by simp;omega)
       simp only[EY]at this;rw[this];congr 1;have h3:z.toList[0]? = some (.pointer none):=by simpa using hz0
       rw[Ex (by simp;omega)]at h3;simpa using h3
      have hz2:(z.setIfInBounds 0 (.pointer (some ⟨b,0,none⟩))).toList= .pointer (some ⟨b,0,none⟩):: z.toList.drop 1:=by
       simp only[Array.toList_setIfInBounds];rw[hzl];rfl
      rw[hz2];rw[hzl]at j4;simp only[EG,EX,aH,VR]at j4 |-;obtain⟨_,_,h1,_,h2⟩:=j4;obtain⟨rfl,rfl⟩:=List.cons.inj h1;exact⟨_,_,rfl,⟨(b,nb),hβ,hb0,rfl⟩,h2⟩
     ·rcases ht.cons with ht|ht
      ·cases ht
      ·exact ht.mono fun a ha=>Fq _ ha
    ·obtain⟨z,j1,j2,j3,j4,j5⟩:=hhr.cells hl (by simp) hβ hb0;have hz0:z[0]? = some (.pointer (some ⟨b,0,none⟩)):=by
      have:=j4.get (i:=0) (c:=.hp l 0) rfl
      obtain⟨v,h1,h2⟩:=this;simp only[VR]at h2;obtain⟨bk,hbk,_,rfl⟩:=h2;rw[hβ]at hbk;cases hbk;rw[Ev]at h1;split at h1
      ·simpa using h1
      ·cases h1
     have hset:h.set l (.hp l 0:: r)=h:=by
      obtain⟨hlt,hk⟩:=E6.1 hl;rw[<- hk];exact List.set_getElem_self hlt
     rw[hset];refine (xQ b w (by rw[j2.cell];exact hz0)).mono ?_;rintro e w' ⟨rfl,rfl⟩;exact dl hw hh0 (Below.refl _ _) qT (by simp only[VR];exact⟨[],rfl,by simp[aH]⟩)
theorem nC{S:ar}{β:List a6}{e:Nat}:{cs:List AV} ->{s:List UInt8} ->{vs:List Value} ->iI e cs=some s->aH S β cs vs->s.length=cs.length/\(∀(j:Nat)(x:UInt8),s[j]? = some x->vs[j]? = some (Value.int .u8 x.toNat))/\∀x∈cs,jK x=some e
 |[],s,vs,h,_=>by
  simp only[iI,Ek]at h;subst h;exact⟨rfl,fun j x hx=>by simp at hx,fun x hx=>by cases hx⟩
 | c :: cs,s,vs,h,hv=>by
  simp only[iI]at h;cases h1:vQ e c with
  |none=>rw[h1]at h;cases h
  | some b=>
   cases h2:iI e cs with
   |none=>rw[h1,h2]at h;cases h
   | some l=>
    rw[h1,h2]at h;simp only[Ek]at h;subst h;simp only[aH]at hv;obtain⟨y,ys,rfl,hy,hv⟩:=hv;obtain⟨k1,k2,k3⟩:=nC h2 hv;unfold vQ at h1;split at h1
    ·rename_i t n;cases hc:(Nat.beq t e&&decide (0<=n)&&decide (n<256))with
     |false=>rw[hc]at h1;cases h1
     | true=>
      rw[hc]at h1;simp only[El,Ek]at h1;simp only[Em,Ew]at hc;obtain⟨⟨c1,c2⟩,c3⟩:=hc;have c1:=Eo c1;subst c1 h1;simp only[VR]at hy;subst hy;refine⟨by simp[k1],fun j x hx=>?_,fun x hx=>?_⟩
      ·cases j with
       |zero=>
        simp only[EP,Ek]at hx |-;subst hx;congr 1;have:(UInt8.ofNat n.toNat).toNat=n.toNat % 256:=rfl;rw[this,Gq (by omega)];omega
       |succ j=>exact k2 j x (by simpa using hx)
      ·rcases EB.1 hx with rfl|hx
       ·rfl
       ·exact k3 x hx
    ·cases h1
def se{w:World}{g n:Nat}:Gro w (w.drew.freeze ⟨g,0,none⟩ n)/\(w.drew.freeze ⟨g,0,none⟩ n).heap.size=w.heap.size/\∀k,k≠g->(w.drew.freeze ⟨g,0,none⟩ n).heap[k]? = w.heap[k]?:=by
 have h1:Gro w.drew (w.drew.freeze ⟨g,0,none⟩ n)/\(w.drew.freeze ⟨g,0,none⟩ n).heap.size=w.drew.heap.size/\∀k,k≠g->(w.drew.freeze ⟨g,0,none⟩ n).heap[k]? = w.drew.heap[k]?:=by
  generalize w.drew=v;unfold World.freeze;split
  ·exact⟨Gro.refl _,rfl,fun _ _=>rfl⟩
  ·refine⟨⟨by simp,rfl,rfl,rfl,fun _=>En _⟩,by simp,fun k hk=>?_⟩;simp only[Gl];rw[if_neg (by omega)]
 exact⟨(Gro.drew w).trans h1.1,h1.2.1,h1.2.2⟩
def CE(call:FuncId->List AV->M AV)(args:List AV)(h:Hp)(S:ar)(β:List a6)(w:World)(vs:List Value)(hr:dW 5 call args h≠.fail)(hg:mU β h w)(hw:Wf S w)(hh:bO S β w h)(hv:aH S β args vs):
  Calls Tryz.prog 87 vs.toArray w (cM none S β h w (dW 5 call args h)):=by
 unfold dW at hr |-;cases hpo:uj args with
 |none=>rw[hpo]at hr;exact absurd rfl hr
 | some l =>
  rw[hpo]at hr
  have:=qz hpo
  subst this;simp only[aH,VR]at hv;obtain⟨_,_,rfl,⟨bk,hβ,hb0,rfl⟩,rfl⟩:=hv;obtain⟨b,nb⟩:=bk;dsimp only at hr |-;have hh0:=hh;obtain⟨hlen,ω,hhr⟩:=hh;have one:∀ {cs:List AV} {x y:AV} {r:List AV},h[l]? = some cs->cs=x:: y:: r->∃v,w.cell? ⟨b,1,none⟩=some v/\VR S β y v:=by
   rintro cs x y r hl rfl;obtain⟨z,j1,j2,j3,j4,j5⟩:=hhr.cells hl (by simp) hβ hb0;obtain⟨v,h1,h2⟩:=j4.get (i:=1) (c:=y) rfl;rw[Ev]at h1;split at h1
   ·exact⟨v,by rw[j2.cell];simpa using h1,h2⟩
   ·cases h1
  cases hl:h[l]? with
  |none=>rw[hl]at hr;exact absurd rfl hr
  | some cs0=>
   rw[hl]at hr;dsimp only at hr |-;cases hst:stA cs0 with
   |none=>rw[hst]at hr;exact absurd rfl hr
   | some q=>
    rw[hst]at hr;cases q with
    |none=>
     dsimp only;obtain⟨x,r,hx⟩:=xo hst;obtain⟨v,hc1,hv1⟩:=one hl hx;simp only[VR]at hv1;subst hv1;refine (A9 b w hc1).mono ?_;rintro e w' ⟨rfl,rfl⟩;exact dl (w':=w.drew) (r:=.str []) (v:=.string ⟨#[]⟩) hw hh0 ⟨rfl,rfl,rfl,En _,fun _ _=>rfl⟩ qT (by simp only[VR];exact⟨_,rfl,rfl⟩)
    | some q=>
     obtain⟨lb,len⟩:=q;dsimp only at hr |-;obtain⟨x,r,hx,k1,k3⟩:=xp hst;obtain⟨v,hc1,hv1⟩:=one hl hx;cases hcs:h[lb]? with
     |none=>rw[hcs]at hr;exact absurd rfl hr
     | some cs=>
      rw[hcs]at hr;dsimp only at hr |-;cases hle:Nat.ble len cs.length with
      |false=>rw[hle]at hr;exact absurd rfl hr
      | true=>
       rw[hle]at hr;simp only[El]at hr |-;have k2:=Gm hle;cases hb:iI 5 (cs.take len)with
       |none=>rw[hb]at hr;exact absurd rfl hr
       | some s=>
        dsimp only;obtain⟨b2,cap,hβ2,hb20,rfl,hlc,hcn⟩:=hv1.hs_pos k1;obtain⟨g,ng⟩:=b2;obtain⟨z,j1,j2,j3,j4,j5⟩:=hhr.cells hcs (by rintro rfl;simp at k2;omega) hβ2 hb20;have j6:=j4.take len;rw[FN,FJ k2]at j6;obtain⟨s1,s2,s3⟩:=nC hb j6;have hsl:s.length=len:=by rw[s1];simp;omega
        have hin:bH 5 cs:=by
         cases cs with
         |nil=>simp at k2;omega
         |cons c cs=>
          refine⟨c,E9,s3 c ?_⟩;obtain⟨m,rfl⟩:∃m,len=m+1:=⟨len-1,by omega⟩;simp
        obtain⟨y,hy⟩:=hhr.tag hcs hin hβ2;cases j2.inj ⟨_,hy⟩;have hzl:cs.length<=z.size:=by have:=j4.length;simp at this;omega
        have hcell:∀(j:Nat)(x:UInt8),s[j]? = some x->z[j]? = some (Value.int .u8 x.toNat):=fun j x hx=>by
         have:=s2 j x hx
         rw[Ev]at this;split at this
         ·simpa using this
         ·cases this
        subst hsl;refine (Ba b g cap z s w (by rintro rfl;simp at k1) hlc hc1 hy k3 (by omega) hcell).mono ?_;rintro e w' ⟨rfl,rfl⟩;obtain⟨f1,f2,f3⟩:=se (w:=w) (g:=g) (n:=s.length);exact rU hg hw hh0 hcs (by rintro rfl;rw[EH]at k2;omega) hβ2 f1 f2 f3 (by simp only[VR];exact⟨_,rfl,rfl⟩)
end Go.Proofs.YteemeakjlfnapaaGreatDoor
