/- What the functions of the seat compute, part 1: the texts of the claim, one behind the other. Conditions: bounds, as each theorem names them. -/
import Derived.Ground.NamesProg
import Derived.Shelf.LaysM
import Derived.Shelf.Strconv.Itoa3
import Derived.Shelf.Strings.Search3
import Derived.Test.YtpmcemjkdkbicaaGreatDoorProg
import Derived.Test.YtpmcemjkdkbicaaGreatDoorLc
import Derived.Shelf.LaysC
import Derived.Shelf.Strconv.AtoiAll
import Derived.Shelf.Strings.Split
import Derived.Lib.Builder
import Derived.Lib.UnsafeStr
import Derived.Shelf.RegionOpenPlain
import Derived.Laws.Externs
import Derived.Laws.IdiomCopy
import Derived.Laws.BitsLemmas
set_option linter.defProp false
set_option linter.unusedSimpArgs false
set_option linter.unusedVariables false
namespace Go.Proofs
open Go.Shelf
def Lo:Go.Shelf.Ren:=⟨fun|171=>22|243=>54|246=>91|283=>109|284=>110|285=>111|286=>112|129=>133|317=>132|318=>134|319=>135|320=>136|337=>143|338=>144|n=>n,fun|3=>3|9=>9|2=>2|4=>4|171=>163|0=>0|53=>164|37=>69|5=>5|173=>167|212=>186|51=>187|20=>20|213=>188|46=>179|232=>207|233=>208|n=>n,fun|17=>2|18=>7|19=>8|n=>n⟩
def Ls:Go.Proofs.LaysM.n171 Tryz.prog Lo:={
 mixed:=by kernel_rfl
 f129:=Tryz.func133.trans (LG some (by kernel_rfl))
 f171:=Tryz.func22.trans (LG some (by kernel_rfl))
 f243:=Tryz.func54.trans (LG some (by kernel_rfl))
 f246:=Tryz.func91.trans (LG some (by kernel_rfl))
 f283:=Tryz.func109.trans (LG some (by kernel_rfl))
 f284:=Tryz.func110.trans (LG some (by kernel_rfl))
 f285:=Tryz.func111.trans (LG some (by kernel_rfl))
 f286:=Tryz.func112.trans (LG some (by kernel_rfl))
 f317:=Tryz.func132.trans (LG some (by kernel_rfl))
 f318:=Tryz.func134.trans (LG some (by kernel_rfl))
 f319:=Tryz.func135.trans (LG some (by kernel_rfl))
 f320:=Tryz.func136.trans (LG some (by kernel_rfl))
 f337:=Tryz.func143.trans (LG some (by kernel_rfl))
 f338:=Tryz.func144.trans (LG some (by kernel_rfl))
 t0:=Tryz.underlying0
 a0:=Tryz.isAgg0
 z0:=Tryz.sizeOf0
 v0:=Tryz.zeroValue0
 t2:=Tryz.underlying2
 a2:=Tryz.isAgg2
 z2:=Tryz.sizeOf2
 v2:=Tryz.zeroValue2
 t3:=Tryz.underlying3
 a3:=Tryz.isAgg3
 z3:=Tryz.sizeOf3
 v3:=Tryz.zeroValue3
 t4:=Tryz.underlying4
 a4:=Tryz.isAgg4
 z4:=Tryz.sizeOf4
 v4:=Tryz.zeroValue4
 t5:=Tryz.underlying5
 a5:=Tryz.isAgg5
 z5:=Tryz.sizeOf5
 v5:=Tryz.zeroValue5
 t9:=Tryz.underlying9
 a9:=Tryz.isAgg9
 z9:=Tryz.sizeOf9
 v9:=Tryz.zeroValue9
 t20:=Tryz.underlying20
 a20:=Tryz.isAgg20
 z20:=Tryz.sizeOf20
 v20:=Tryz.zeroValue20
 t37:=Tryz.underlying69
 a37:=Tryz.isAgg69
 z37:=Tryz.sizeOf69
 v37:=Tryz.zeroValue69
 t46:=Tryz.underlying179
 a46:=Tryz.isAgg179
 z46:=Tryz.sizeOf179
 v46:=Tryz.zeroValue179
 t51:=Tryz.underlying187
 a51:=Tryz.isAgg187
 z51:=Tryz.sizeOf187
 v51:=Tryz.zeroValue187
 t53:=Tryz.underlying164
 a53:=Tryz.isAgg164
 z53:=Tryz.sizeOf164
 v53:=Tryz.zeroValue164
 t171:=Tryz.underlying163
 a171:=Tryz.isAgg163
 z171:=Tryz.sizeOf163
 v171:=Tryz.zeroValue163
 t173:=Tryz.underlying167
 a173:=Tryz.isAgg167
 z173:=Tryz.sizeOf167
 v173:=Tryz.zeroValue167
 t212:=Tryz.underlying186
 a212:=Tryz.isAgg186
 z212:=Tryz.sizeOf186
 v212:=Tryz.zeroValue186
 t213:=Tryz.underlying188
 a213:=Tryz.isAgg188
 z213:=Tryz.sizeOf188
 t232:=Tryz.underlying207
 a232:=Tryz.isAgg207
 z232:=Tryz.sizeOf207
 v232:=Tryz.zeroValue207
 t233:=Tryz.underlying208
 a233:=Tryz.isAgg208
 z233:=Tryz.sizeOf208
 v233:=Tryz.zeroValue208
 g17:=by kernel_rfl
 g18:=by kernel_rfl
 g19:=by kernel_rfl
 i0:=by kernel_rfl
 i2:=by kernel_rfl
 i3:=by kernel_rfl
 i4:=by kernel_rfl
 i5:=by kernel_rfl
 i9:=by kernel_rfl
 i20:=by kernel_rfl
 i37:=by kernel_rfl
 i46:=by kernel_rfl
 i51:=by kernel_rfl
 i53:=by kernel_rfl
 i171:=by kernel_rfl
 i173:=by kernel_rfl
 i212:=by kernel_rfl
 i232:=by kernel_rfl
 i233:=by kernel_rfl
 m17:=by kernel_rfl
 m18:=by kernel_rfl
 m19:=by kernel_rfl }
def Lr:Go.Shelf.Ren:=⟨fun|144=>42|143=>76|219=>102|217=>122|225=>123|224=>124|267=>125|266=>141|314=>142|n=>n,fun|9=>9|4=>4|3=>3|5=>5|46=>179|146=>196|51=>187|n=>n,fun|1=>1|n=>n⟩
def Lu:Go.Proofs.Lays.n144 Tryz.prog Lr:={
 mixed:=by kernel_rfl
 f143:=Tryz.func76.trans (LG some (by kernel_rfl))
 f144:=Tryz.func42.trans (LG some (by kernel_rfl))
 f217:=Tryz.func122.trans (LG some (by kernel_rfl))
 f219:=Tryz.func102.trans (LG some (by kernel_rfl))
 f224:=Tryz.func124.trans (LG some (by kernel_rfl))
 f225:=Tryz.func123.trans (LG some (by kernel_rfl))
 f266:=Tryz.func141.trans (LG some (by kernel_rfl))
 f267:=Tryz.func125.trans (LG some (by kernel_rfl))
 f314:=Tryz.func142.trans (LG some (by kernel_rfl))
 t3:=Tryz.underlying3
 a3:=Tryz.isAgg3
 z3:=Tryz.sizeOf3
 v3:=Tryz.zeroValue3
 t4:=Tryz.underlying4
 a4:=Tryz.isAgg4
 z4:=Tryz.sizeOf4
 v4:=Tryz.zeroValue4
 t5:=Tryz.underlying5
 a5:=Tryz.isAgg5
 z5:=Tryz.sizeOf5
 v5:=Tryz.zeroValue5
 t9:=Tryz.underlying9
 a9:=Tryz.isAgg9
 z9:=Tryz.sizeOf9
 v9:=Tryz.zeroValue9
 t46:=Tryz.underlying179
 a46:=Tryz.isAgg179
 z46:=Tryz.sizeOf179
 v46:=Tryz.zeroValue179
 t51:=Tryz.underlying187
 a51:=Tryz.isAgg187
 z51:=Tryz.sizeOf187
 v51:=Tryz.zeroValue187
 t146:=Tryz.underlying196
 a146:=Tryz.isAgg196
 z146:=Tryz.sizeOf196
 v146:=Tryz.zeroValue196
 g1:=by kernel_rfl }
end Go.Proofs
namespace Go.Proofs.YtpmcemjkdkbicaaGreatDoor
open Go Go.Av Go.Av.Ap
abbrev CC:=FuncId->List AV->M AV
abbrev RR:=List AV->M AV
def lb{α β:Type}{m:M α}{f:α->M β}{fs:Nat->α->M β}(hf:bm f fs):aR (ae m f) fun n=>ae m (fs n):=aR.bnd (aR.const _) hf
abbrev vN(l:List Nat):List (Nat×Option Nat):=l.map fun x=>(x,none)
abbrev tF:TI:=TI.mk false 1 8 .func [] [.nilf] false
noncomputable def tab:List (Nat×TI):=[
(0,(TI.mk false 1 0 .other [] [.any] false)),
(1,tF),
(2,(TI.mk false 1 8 (.int .i64) [] [.int .i64 0] false)),
(3,(TI.mk false 1 8 (.int .i64) [] [.int .i64 0] false)),
(4,(TI.mk false 1 1 .bool [] [.bool false] false)),
(5,(TI.mk false 1 1 (.int .u8) [] [.int .u8 0] false)),
(6,(TI.mk false 1 1 (.int .u8) [] [.int .u8 0] false)),
(7,(TI.mk true 4 24 .struct [(0,((2,true))),(1,((3,true))),(2,((4,true))),(3,((6,true)))] [.int .i64 0,.int .i64 0,.bool false,.int .u8 0] true)),
(8,(TI.mk true 4 24 .struct [(0,((2,true))),(1,((3,true))),(2,((4,true))),(3,((6,true)))] [.int .i64 0,.int .i64 0,.bool false,.int .u8 0] true)),
(9,(TI.mk false 1 16 .str [] [.str []] false)),
(10,(TI.mk false 1 16 .str [] [.str []] false)),
(11,(TI.mk false 1 16 .str [] [.str []] false)),
(12,(TI.mk false 1 8 (.int .u64) [] [.int .u64 0] false)),
(13,(TI.mk true 2 24 .struct [(0,((9,true))),(1,((12,true)))] [.str [],.int .u64 0] false)),
(14,(TI.mk true 2 24 .struct [(0,((9,true))),(1,((12,true)))] [.str [],.int .u64 0] false)),
(15,(TI.mk false 1 8 .ptr [] [.nilp] false)),
(16,(TI.mk false 1 8 .ptr [] [.nilp] false)),
(17,(TI.mk false 1 8 .ptr [] [.nilp] false)),
(18,(TI.mk true 1 8 .struct [(0,((17,true)))] [.nilp] false)),
(19,(TI.mk true 1 8 .struct [(0,((17,true)))] [.nilp] false)),
(20,(TI.mk false 1 16 .iface [] [.nili] false)),
(21,(TI.mk false 1 4 (.int .i32) [] [.int .i32 0] false)),
(22,(TI.mk false 1 24 (.slice 28) [] [.sl []] false)),
(23,tF),
(24,tF),
(25,tF),
(26,(TI.mk false 1 24 (.slice 67) [] [.sl []] false)),
(27,(TI.mk true 4 56 .struct [(0,((9,true))),(1,((3,true))),(2,((3,true))),(3,((26,true)))] [.str [],.int .i64 0,.int .i64 0,.sl []] true)),
(28,(TI.mk true 4 56 .struct [(0,((9,true))),(1,((3,true))),(2,((3,true))),(3,((26,true)))] [.str [],.int .i64 0,.int .i64 0,.sl []] true)),
(29,tF),
(30,(TI.mk false 1 8 (.int .i64) [] [.int .i64 0] false)),
(31,(TI.mk false 1 0 .other [] [.any] false)),
(32,tF),
(33,tF),
(34,tF),
(35,(TI.mk false 1 24 (.slice 9) [] [.sl []] false)),
(36,(TI.mk false 1 24 (.slice 95) [] [.sl []] false)),
(37,(TI.mk false 1 24 (.slice 57) [] [.sl []] false)),
(38,(TI.mk false 1 24 (.slice 59) [] [.sl []] false)),
(39,(TI.mk true 3 72 .struct [(0,((36,true))),(1,((37,true))),(2,((37,true)))] [.sl [],.sl [],.sl []] true)),
(40,(TI.mk true 3 72 .struct [(0,((36,true))),(1,((37,true))),(2,((37,true)))] [.sl [],.sl [],.sl []] true)),
(41,(TI.mk true 9 192 .struct [(0,((9,true))),(1,((35,true))),(2,((36,true))),(3,((37,true))),(4,((38,true))),(5,((4,true))),(6,((40,true)))] [.str [],.sl [],.sl [],.sl [],.sl [],.bool false,.sl [],.sl [],.sl []] true)),
(42,(TI.mk true 9 192 .struct [(0,((9,true))),(1,((35,true))),(2,((36,true))),(3,((37,true))),(4,((38,true))),(5,((4,true))),(6,((40,true)))] [.str [],.sl [],.sl [],.sl [],.sl [],.bool false,.sl [],.sl [],.sl []] true)),
(43,tF),
(44,tF),
(45,tF),
(46,tF),
(47,(TI.mk false 1 24 (.slice 51) [] [.sl []] false)),
(48,tF),
(49,(TI.mk false 1 24 (.slice 102) [] [.sl []] false)),
(50,(TI.mk true 2 40 .struct [(0,((9,true))),(1,((49,true)))] [.str [],.sl []] true)),
(51,(TI.mk true 2 40 .struct [(0,((9,true))),(1,((49,true)))] [.str [],.sl []] true)),
(52,(TI.mk false 1 0 .other [] [.any] false)),
(53,tF),
(54,(TI.mk true 2 32 .struct [(0,((3,true))),(1,((36,true)))] [.int .i64 0,.sl []] true)),
(55,(TI.mk true 2 32 .struct [(0,((3,true))),(1,((36,true)))] [.int .i64 0,.sl []] true)),
(56,(TI.mk true 6 96 .struct [(0,((3,true))),(1,((3,true))),(2,((9,true))),(3,((9,true))),(4,((35,true))),(5,((37,true)))] [.int .i64 0,.int .i64 0,.str [],.str [],.sl [],.sl []] true)),
(57,(TI.mk true 6 96 .struct [(0,((3,true))),(1,((3,true))),(2,((9,true))),(3,((9,true))),(4,((35,true))),(5,((37,true)))] [.int .i64 0,.int .i64 0,.str [],.str [],.sl [],.sl []] true)),
(58,(TI.mk true 12 184 .struct [(0,((9,true))),(1,((4,true))),(2,((36,true))),(3,((55,true))),(5,((3,true))),(6,((57,true)))] [.str [],.bool false,.sl [],.int .i64 0,.sl [],.int .i64 0,.int .i64 0,.int .i64 0,.str [],.str [],.sl [],.sl []] true)),
(59,(TI.mk true 12 184 .struct [(0,((9,true))),(1,((4,true))),(2,((36,true))),(3,((55,true))),(5,((3,true))),(6,((57,true)))] [.str [],.bool false,.sl [],.int .i64 0,.sl [],.int .i64 0,.int .i64 0,.int .i64 0,.str [],.str [],.sl [],.sl []] true)),
(60,(TI.mk false 1 24 (.slice 3) [] [.sl []] false)),
(61,(TI.mk false 1 0 .other [] [.any] false)),
(62,tF),
(63,tF),
(64,tF),
(65,tF),
(66,(TI.mk true 5 72 .struct [(0,((3,true))),(1,((3,true))),(2,((9,true))),(3,((9,true))),(4,((35,true)))] [.int .i64 0,.int .i64 0,.str [],.str [],.sl []] true)),
(67,(TI.mk true 5 72 .struct [(0,((3,true))),(1,((3,true))),(2,((9,true))),(3,((9,true))),(4,((35,true)))] [.int .i64 0,.int .i64 0,.str [],.str [],.sl []] true)),
(68,(TI.mk false 1 8 .ptr [] [.nilp] false)),
(69,(TI.mk false 1 24 (.slice 5) [] [.sl []] false)),
(70,(TI.mk true 2 32 .struct [(0,((68,true))),(1,((69,true)))] [.nilp,.sl []] true)),
(71,(TI.mk true 2 32 .struct [(0,((68,true))),(1,((69,true)))] [.nilp,.sl []] true)),
(72,(TI.mk false 1 16 .iface [] [.nili] false)),
(73,(TI.mk false 1 16 .iface [] [.nili] false)),
(74,(TI.mk false 1 0 .other [] [.any] false)),
(75,tF),
(76,tF),
(77,tF),
(78,tF),
(79,tF),
(80,tF),
(81,tF),
(82,tF),
(83,tF),
(84,tF),
(85,tF),
(86,tF),
(87,tF),
(88,(TI.mk false 1 8 (.map 9 4) [] [.nilm] false)),
(89,tF),
(90,tF),
(91,(TI.mk false 1 8 .ptr [] [.nilp] false)),
(92,(TI.mk true 3 56 .struct [(0,((36,true))),(1,((26,true))),(2,((3,true)))] [.sl [],.sl [],.int .i64 0] true)),
(93,(TI.mk true 3 56 .struct [(0,((36,true))),(1,((26,true))),(2,((3,true)))] [.sl [],.sl [],.int .i64 0] true)),
(94,(TI.mk true 3 48 .struct [(0,((9,true))),(1,((55,true)))] [.str [],.int .i64 0,.sl []] true)),
(95,(TI.mk true 3 48 .struct [(0,((9,true))),(1,((55,true)))] [.str [],.int .i64 0,.sl []] true)),
(96,tF),
(97,tF),
(98,tF),
(99,tF),
(100,(TI.mk false 1 24 (.slice 55) [] [.sl []] false)),
(101,(TI.mk true 5 80 .struct [(0,((9,true))),(1,((100,true))),(2,((55,true))),(4,((3,true)))] [.str [],.sl [],.int .i64 0,.sl [],.int .i64 0] true)),
(102,(TI.mk true 5 80 .struct [(0,((9,true))),(1,((100,true))),(2,((55,true))),(4,((3,true)))] [.str [],.sl [],.int .i64 0,.sl [],.int .i64 0] true)),
(103,(TI.mk false 1 8 .ptr [] [.nilp] false)),
(104,(TI.mk false 1 0 .other [] [.any] false)),
(105,tF),
(106,(TI.mk false 1 0 .other [] [.any] false)),
(107,(TI.mk false 1 8 (.map 9 51) [] [.nilm] false)),
(108,(TI.mk true 11 208 .struct [(0,((42,true))),(9,((107,true))),(10,((3,true)))] [.str [],.sl [],.sl [],.sl [],.sl [],.bool false,.sl [],.sl [],.sl [],.nilm,.int .i64 0] true)),
(109,(TI.mk true 11 208 .struct [(0,((42,true))),(9,((107,true))),(10,((3,true)))] [.str [],.sl [],.sl [],.sl [],.sl [],.bool false,.sl [],.sl [],.sl [],.nilm,.int .i64 0] true)),
(110,tF),
(111,(TI.mk false 1 0 .other [] [.any] false)),
(112,tF),
(113,tF),
(114,tF),
(115,(TI.mk false 1 0 .other [] [.any] false)),
(116,tF),
(117,tF),
(118,tF),
(119,tF),
(120,(TI.mk true 20 320 (.array 20 9) [] [.str [],.str [],.str [],.str [],.str [],.str [],.str [],.str [],.str [],.str [],.str [],.str [],.str [],.str [],.str [],.str [],.str [],.str [],.str [],.str []] false)),
(121,(TI.mk false 1 8 .ptr [] [.nilp] false)),
(122,tF),
(123,tF),
(124,tF),
(125,tF),
(126,tF),
(127,tF),
(128,tF),
(129,tF),
(130,tF),
(131,tF),
(132,tF),
(133,tF),
(134,tF),
(135,tF),
(136,tF),
(137,tF),
(138,(TI.mk false 1 0 .other [] [.any] false)),
(139,tF),
(140,tF),
(141,(TI.mk false 1 0 .other [] [.any] false)),
(142,tF),
(143,tF),
(144,tF),
(145,tF),
(146,tF),
(147,(TI.mk false 1 8 .other [] [.nilp] false)),
(148,tF),
(149,tF),
(150,tF),
(151,tF),
(152,(TI.mk false 1 0 .other [] [.any] false)),
(153,tF),
(154,tF),
(155,tF),
(156,tF),
(157,tF),
(158,tF),
(159,(TI.mk false 1 0 .other [] [.any] false)),
(160,tF),
(161,tF),
(162,tF),
(163,(TI.mk true 24 24 (.array 24 5) [] [.int .u8 0,.int .u8 0,.int .u8 0,.int .u8 0,.int .u8 0,.int .u8 0,.int .u8 0,.int .u8 0,.int .u8 0,.int .u8 0,.int .u8 0,.int .u8 0,.int .u8 0,.int .u8 0,.int .u8 0,.int .u8 0,.int .u8 0,.int .u8 0,.int .u8 0,.int .u8 0,.int .u8 0,.int .u8 0,.int .u8 0,.int .u8 0] false)),
(164,(TI.mk false 1 8 (.int .u64) [] [.int .u64 0] false)),
(165,tF),
(166,tF),
(167,(TI.mk false 1 0 .other [] [.any] false)),
(168,tF),
(169,(TI.mk false 1 0 .other [] [.any] false)),
(170,tF),
(171,tF),
(172,(TI.mk false 1 8 (.int .i64) [] [.int .i64 0] false)),
(173,(TI.mk false 1 0 .other [] [.any] false)),
(174,tF),
(175,(TI.mk false 1 8 .ptr [] [.nilp] false)),
(176,tF),
(177,tF),
(178,tF),
(179,(TI.mk false 1 8 (.int .u64) [] [.int .u64 0] false)),
(180,tF),
(181,tF),
(182,tF),
(183,tF),
(184,tF),
(185,tF),
(186,(TI.mk true 20 160 (.array 20 164) [] [.int .u64 0,.int .u64 0,.int .u64 0,.int .u64 0,.int .u64 0,.int .u64 0,.int .u64 0,.int .u64 0,.int .u64 0,.int .u64 0,.int .u64 0,.int .u64 0,.int .u64 0,.int .u64 0,.int .u64 0,.int .u64 0,.int .u64 0,.int .u64 0,.int .u64 0,.int .u64 0] false)),
(187,(TI.mk false 1 4 (.int .u32) [] [.int .u32 0] false)),
(188,(TI.mk true 65 65 (.array 65 5) [] [.int .u8 0,.int .u8 0,.int .u8 0,.int .u8 0,.int .u8 0,.int .u8 0,.int .u8 0,.int .u8 0,.int .u8 0,.int .u8 0,.int .u8 0,.int .u8 0,.int .u8 0,.int .u8 0,.int .u8 0,.int .u8 0,.int .u8 0,.int .u8 0,.int .u8 0,.int .u8 0,.int .u8 0,.int .u8 0,.int .u8 0,.int .u8 0,.int .u8 0,.int .u8 0,.int .u8 0,.int .u8 0,.int .u8 0,.int .u8 0,.int .u8 0,.int .u8 0,.int .u8 0,.int .u8 0,.int .u8 0,.int .u8 0,.int .u8 0,.int .u8 0,.int .u8 0,.int .u8 0,.int .u8 0,.int .u8 0,.int .u8 0,.int .u8 0,.int .u8 0,.int .u8 0,.int .u8 0,.int .u8 0,.int .u8 0,.int .u8 0,.int .u8 0,.int .u8 0,.int .u8 0,.int .u8 0,.int .u8 0,.int .u8 0,.int .u8 0,.int .u8 0,.int .u8 0,.int .u8 0,.int .u8 0,.int .u8 0,.int .u8 0,.int .u8 0,.int .u8 0] false)),
(189,tF),
(190,(TI.mk false 1 0 .other [] [.any] false)),
(191,tF),
(192,tF),
(193,(TI.mk true 3 48 .struct [(0,((9,true))),(1,((9,true))),(2,((73,true)))] [.str [],.str [],.nili] false)),
(194,(TI.mk true 3 48 .struct [(0,((9,true))),(1,((9,true))),(2,((73,true)))] [.str [],.str [],.nili] false)),
(195,tF),
(196,(TI.mk false 1 0 .other [] [.any] false)),
(197,tF),
(198,tF),
(199,(TI.mk true 256 256 (.array 256 5) [] [.int .u8 0,.int .u8 0,.int .u8 0,.int .u8 0,.int .u8 0,.int .u8 0,.int .u8 0,.int .u8 0,.int .u8 0,.int .u8 0,.int .u8 0,.int .u8 0,.int .u8 0,.int .u8 0,.int .u8 0,.int .u8 0,.int .u8 0,.int .u8 0,.int .u8 0,.int .u8 0,.int .u8 0,.int .u8 0,.int .u8 0,.int .u8 0,.int .u8 0,.int .u8 0,.int .u8 0,.int .u8 0,.int .u8 0,.int .u8 0,.int .u8 0,.int .u8 0,.int .u8 0,.int .u8 0,.int .u8 0,.int .u8 0,.int .u8 0,.int .u8 0,.int .u8 0,.int .u8 0,.int .u8 0,.int .u8 0,.int .u8 0,.int .u8 0,.int .u8 0,.int .u8 0,.int .u8 0,.int .u8 0,.int .u8 0,.int .u8 0,.int .u8 0,.int .u8 0,.int .u8 0,.int .u8 0,.int .u8 0,.int .u8 0,.int .u8 0,.int .u8 0,.int .u8 0,.int .u8 0,.int .u8 0,.int .u8 0,.int .u8 0,.int .u8 0,.int .u8 0,.int .u8 0,.int .u8 0,.int .u8 0,.int .u8 0,.int .u8 0,.int .u8 0,.int .u8 0,.int .u8 0,.int .u8 0,.int .u8 0,.int .u8 0,.int .u8 0,.int .u8 0,.int .u8 0,.int .u8 0,.int .u8 0,.int .u8 0,.int .u8 0,.int .u8 0,.int .u8 0,.int .u8 0,.int .u8 0,.int .u8 0,.int .u8 0,.int .u8 0,.int .u8 0,.int .u8 0,.int .u8 0,.int .u8 0,.int .u8 0,.int .u8 0,.int .u8 0,.int .u8 0,.int .u8 0,.int .u8 0,.int .u8 0,.int .u8 0,.int .u8 0,.int .u8 0,.int .u8 0,.int .u8 0,.int .u8 0,.int .u8 0,.int .u8 0,.int .u8 0,.int .u8 0,.int .u8 0,.int .u8 0,.int .u8 0,.int .u8 0,.int .u8 0,.int .u8 0,.int .u8 0,.int .u8 0,.int .u8 0,.int .u8 0,.int .u8 0,.int .u8 0,.int .u8 0,.int .u8 0,.int .u8 0,.int .u8 0,.int .u8 0,.int .u8 0,.int .u8 0,.int .u8 0,.int .u8 0,.int .u8 0,.int .u8 0,.int .u8 0,.int .u8 0,.int .u8 0,.int .u8 0,.int .u8 0,.int .u8 0,.int .u8 0,.int .u8 0,.int .u8 0,.int .u8 0,.int .u8 0,.int .u8 0,.int .u8 0,.int .u8 0,.int .u8 0,.int .u8 0,.int .u8 0,.int .u8 0,.int .u8 0,.int .u8 0,.int .u8 0,.int .u8 0,.int .u8 0,.int .u8 0,.int .u8 0,.int .u8 0,.int .u8 0,.int .u8 0,.int .u8 0,.int .u8 0,.int .u8 0,.int .u8 0,.int .u8 0,.int .u8 0,.int .u8 0,.int .u8 0,.int .u8 0,.int .u8 0,.int .u8 0,.int .u8 0,.int .u8 0,.int .u8 0,.int .u8 0,.int .u8 0,.int .u8 0,.int .u8 0,.int .u8 0,.int .u8 0,.int .u8 0,.int .u8 0,.int .u8 0,.int .u8 0,.int .u8 0,.int .u8 0,.int .u8 0,.int .u8 0,.int .u8 0,.int .u8 0,.int .u8 0,.int .u8 0,.int .u8 0,.int .u8 0,.int .u8 0,.int .u8 0,.int .u8 0,.int .u8 0,.int .u8 0,.int .u8 0,.int .u8 0,.int .u8 0,.int .u8 0,.int .u8 0,.int .u8 0,.int .u8 0,.int .u8 0,.int .u8 0,.int .u8 0,.int .u8 0,.int .u8 0,.int .u8 0,.int .u8 0,.int .u8 0,.int .u8 0,.int .u8 0,.int .u8 0,.int .u8 0,.int .u8 0,.int .u8 0,.int .u8 0,.int .u8 0,.int .u8 0,.int .u8 0,.int .u8 0,.int .u8 0,.int .u8 0,.int .u8 0,.int .u8 0,.int .u8 0,.int .u8 0,.int .u8 0,.int .u8 0,.int .u8 0,.int .u8 0,.int .u8 0,.int .u8 0,.int .u8 0,.int .u8 0,.int .u8 0,.int .u8 0,.int .u8 0,.int .u8 0,.int .u8 0,.int .u8 0,.int .u8 0,.int .u8 0,.int .u8 0,.int .u8 0,.int .u8 0,.int .u8 0,.int .u8 0,.int .u8 0,.int .u8 0] false)),
(200,(TI.mk true 2 2 .struct [(0,((5,true))),(1,((5,true)))] [.int .u8 0,.int .u8 0] true)),
(201,(TI.mk true 2 2 .struct [(0,((5,true))),(1,((5,true)))] [.int .u8 0,.int .u8 0] true)),
(202,(TI.mk true 32 32 (.array 16 201) [] [.int .u8 0,.int .u8 0,.int .u8 0,.int .u8 0,.int .u8 0,.int .u8 0,.int .u8 0,.int .u8 0,.int .u8 0,.int .u8 0,.int .u8 0,.int .u8 0,.int .u8 0,.int .u8 0,.int .u8 0,.int .u8 0,.int .u8 0,.int .u8 0,.int .u8 0,.int .u8 0,.int .u8 0,.int .u8 0,.int .u8 0,.int .u8 0,.int .u8 0,.int .u8 0,.int .u8 0,.int .u8 0,.int .u8 0,.int .u8 0,.int .u8 0,.int .u8 0] false)),
(203,tF),
(204,(TI.mk false 1 8 .ptr [] [.nilp] false)),
(205,(TI.mk true 1 16 .struct [(0,((9,true)))] [.str []] true)),
(206,(TI.mk true 1 16 .struct [(0,((9,true)))] [.str []] true)),
(207,(TI.mk true 32 32 (.array 32 5) [] [.int .u8 0,.int .u8 0,.int .u8 0,.int .u8 0,.int .u8 0,.int .u8 0,.int .u8 0,.int .u8 0,.int .u8 0,.int .u8 0,.int .u8 0,.int .u8 0,.int .u8 0,.int .u8 0,.int .u8 0,.int .u8 0,.int .u8 0,.int .u8 0,.int .u8 0,.int .u8 0,.int .u8 0,.int .u8 0,.int .u8 0,.int .u8 0,.int .u8 0,.int .u8 0,.int .u8 0,.int .u8 0,.int .u8 0,.int .u8 0,.int .u8 0,.int .u8 0] false)),
(208,(TI.mk true 64 64 (.array 64 5) [] [.int .u8 0,.int .u8 0,.int .u8 0,.int .u8 0,.int .u8 0,.int .u8 0,.int .u8 0,.int .u8 0,.int .u8 0,.int .u8 0,.int .u8 0,.int .u8 0,.int .u8 0,.int .u8 0,.int .u8 0,.int .u8 0,.int .u8 0,.int .u8 0,.int .u8 0,.int .u8 0,.int .u8 0,.int .u8 0,.int .u8 0,.int .u8 0,.int .u8 0,.int .u8 0,.int .u8 0,.int .u8 0,.int .u8 0,.int .u8 0,.int .u8 0,.int .u8 0,.int .u8 0,.int .u8 0,.int .u8 0,.int .u8 0,.int .u8 0,.int .u8 0,.int .u8 0,.int .u8 0,.int .u8 0,.int .u8 0,.int .u8 0,.int .u8 0,.int .u8 0,.int .u8 0,.int .u8 0,.int .u8 0,.int .u8 0,.int .u8 0,.int .u8 0,.int .u8 0,.int .u8 0,.int .u8 0,.int .u8 0,.int .u8 0,.int .u8 0,.int .u8 0,.int .u8 0,.int .u8 0,.int .u8 0,.int .u8 0,.int .u8 0,.int .u8 0] false)),
(209,(TI.mk true 4 40 .struct [(0,((17,true))),(1,((17,true))),(2,((17,true))),(3,((9,true)))] [.nilp,.nilp,.nilp,.str []] false)),
(210,(TI.mk true 4 40 .struct [(0,((17,true))),(1,((17,true))),(2,((17,true))),(3,((9,true)))] [.nilp,.nilp,.nilp,.str []] false)),
(211,(TI.mk true 0 0 (.array 0 16) [] [] false)),
(212,(TI.mk true 0 0 .struct [(0,((211,false)))] [] false)),
(213,(TI.mk true 0 0 .struct [(0,((211,false)))] [] false)),
(214,tF),
(215,(TI.mk false 1 1 (.int .u8) [] [.int .u8 0] false)),
(216,(TI.mk false 1 1 (.int .u8) [] [.int .u8 0] false)),
(217,tF),
(218,(TI.mk false 1 4 (.int .i32) [] [.int .i32 0] false)),
(219,(TI.mk false 1 4 (.int .i32) [] [.int .i32 0] false)),
(220,(TI.mk true 11 48 .struct [(0,((12,true))),(1,((12,true))),(2,((187,true))),(3,((215,true))),(4,((5,true))),(5,((5,true))),(6,((216,true))),(7,((217,true))),(8,((121,true))),(9,((218,true))),(10,((219,true)))] [.int .u64 0,.int .u64 0,.int .u32 0,.int .u8 0,.int .u8 0,.int .u8 0,.int .u8 0,.nilf,.nilp,.int .i32 0,.int .i32 0] false)),
(221,(TI.mk true 11 48 .struct [(0,((12,true))),(1,((12,true))),(2,((187,true))),(3,((215,true))),(4,((5,true))),(5,((5,true))),(6,((216,true))),(7,((217,true))),(8,((121,true))),(9,((218,true))),(10,((219,true)))] [.int .u64 0,.int .u64 0,.int .u32 0,.int .u8 0,.int .u8 0,.int .u8 0,.int .u8 0,.nilf,.nilp,.int .i32 0,.int .i32 0] false))]
def xN:List (Nat×TI)->Nat->Option TI
 |[],_=>none
 |(k,x):: r,t=>bif Nat.beq k t then some x else xN r t
noncomputable def T:TT:=xN tab
def HF:Ann:={nl:=[18,36,41,46,48,64,77,79,83,90,92,96,104,117,128,145],loops:=[(0,{vals:=vN [1,2,5,6]}),(2,{vals:=vN [2,5,8,9,10]}),(4,{vals:=vN [2,5,8,9,10,11,13]})]}
def F7:Ann:={no:=[42],nl:=[24,48]}
def HI:Ann:={nl:=[6]}
def HJ:Ann:={kinds:=[(3,.B),(5,.S),(7,.S)],nl:=[13,14,18,22,27,33,38,39],lw:=[5,7],loops:=[(0,{vals:=vN [3,8,9,10]}),(2,{vals:=vN [3,8,9,10,33,34,35]})],ords:=[(7,[0,1,2,3,4,5,9,10,6,7,8,11,12,13,14])]}
def Eg:Ann:={hl:=[29],ha:=[33,63],hb:=[4,61],no:=[32,62],nl:=[15,29,42,52,55,59],joins:=[(1000000,{vals:=vN [0,4],fz:=true})],loops:=[(0,{vals:=vN [0,4,10,11,12]})]}
def Eh:Ann:={nl:=[22,27,34,39,47,52,60,66,75,84,87,92,95],loops:=[(0,{vals:=vN [0,1,5]}),(2,{vals:=vN [0,1,5,6]})]}
def Ei:Ann:={nl:=[6,16,20,25,29,35,39,44,49,55,60,66,72,78],loops:=[(0,{vals:=vN [1,3]})]}
def Ej:Ann:={kinds:=[(8,.S)],nl:=[13,18,32,37,40,44,50,56,62,68,74,77,82,88,94,100,102,109,112,115,121,126,133],lw:=[8],joins:=[(116,{vals:=vN [1,9,10]})],loops:=[(0,{vals:=vN [1,3,13,14,15]}),(2,{vals:=vN [1,6,32,33,34]})]}
def Ek:Ann:={kinds:=[(5,.S),(9,.S),(26,.H)],hl:=[57,61],hb:=[25],no:=[37,63],nl:=[10,14,19,21,23,28,33,36,42,50,52,57,61],lw:=[5,9],loops:=[(0,{vals:=[(1,none),(3,some 4),(14,none),(15,none),(16,none)]}),(2,{vals:=[(1,none),(3,some 4),(5,none),(6,none),(7,some 1),(14,none),(15,none),(16,none),(28,none),(29,none),(30,none)]})]}
def El:Ann:={}
def Em:Ann:={nl:=[6,16,19,23],loops:=[(0,{vals:=vN [1,3]})]}
def En:Ann:={kinds:=[(10,.S),(15,.S),(16,.S)],hl:=[42,103],nl:=[19,27,32,37,42,52,58,67,72,79,81,89,92,94,98,103,105,109],lw:=[10,15,16],loops:=[(0,{vals:=vN [2,6,32,33,34]}),(2,{vals:=vN [6,67,68,69]})]}
def Eo:Ann:={kinds:=[(6,.S)],hl:=[83,98,120,127,141,145],ha:=[43],no:=[135],nl:=[14,19,24,29,31,36,41,45,51,52,53,68,73,76,83,88,92,98,102,109,113,120,127,141,145],lw:=[6],so:=[70],loops:=[(0,{vals:=vN [1,4,45,46,47]}),(2,{vals:=[(1,none),(4,none),(7,some 1)]}),(4,{vals:=[(1,none),(4,none),(7,some 1),(8,none),(9,none),(10,none),(104,none),(105,none),(106,none)]})]}
def HD:Ann:={kinds:=[(1,.S),(2,.S),(3,.S),(4,.S)],no:=[7,11,17,19,22,27,30,32],nl:=[13,14,23,31],lw:=[0,1,2,3,4]}
def HE:Ann:={nl:=[20,24],loops:=[(0,{vals:=vN [0,1,5]})]}
def Ep:Ann:={iso:=false,hl:=[12],ha:=[14],hb:=[14],nl:=[12]}
def Er:Ann:={nl:=[8,10,12,15,23,29,37,41,48,53],joins:=[(31,{vals:=vN [1,3,4]}),(59,{vals:=vN [1,3,59]}),(1000000,{vals:=[(3,none)]})],loops:=[(1,{vals:=vN [3,48,49,50]})]}
def Es:Ann:={}
def Et:Ann:={}
def Eu:Ann:={}
def Ev:Ann:={}
def Ew:Ann:={nl:=[8,31,44,48,51,62],lw:=[2,3,19,32,53,54,55,64],joins:=[(1000000,{vals:=vN [3000,3001,3002,3003,3004,4000,4001,4002,4003,4004],locs:=[(2,3000,0),(3,4000,0)],lbs:=[(3000,5),(4000,5)]})]}
def Ex:Ann:={nl:=[6,8,12,14,19,21,26,28,33,35]}
def Ey:Ann:={nl:=[18],loops:=[(0,{vals:=vN [0,3]})]}
def Ez:Ann:={nl:=[3]}
def EA:Ann:={nl:=[3]}
def EB:Ann:={nl:=[17],loops:=[(0,{vals:=vN [0,3]})]}
def EC:Ann:={kinds:=[(7,.S)],nl:=[14,17,21,27,33],lw:=[7],loops:=[(0,{vals:=vN [0,1,5,9,10,11]})]}
def ED:Ann:={nl:=[3]}
def EF:Ann:={nl:=[3]}
def EG:Ann:={kinds:=[(6,.S)],nl:=[12,13],lw:=[6],loops:=[(0,{vals:=vN [0,1,7,8,9]})]}
def EH:Ann:={iso:=false,hl:=[125],no:=[141],nl:=[8,11,16,23,30,38,47,55,57,62,64,73,75,82,84,91,93,98,100,102,104,111,113,125,134,136,140],ords:=[(15,[0,1,2,3,4,5,7,6,8]),(18,[0,1,3,4,5,6,7,2,8]),(26,[0,1,2,3,4,5,7,8,9,6,10,11])]}
def EI:Ann:={iso:=false,hl:=[9,18],ha:=[12],no:=[11],nl:=[9,10,18]}
def EJ:Ann:={}
def EK:Ann:={nl:=[6,16,19,23,28],loops:=[(0,{vals:=vN [1,3]})]}
def EL:Ann:={iso:=false,kinds:=[(8,.S),(10,.S),(11,.S),(16,.H)],hl:=[44,55],hb:=[15],nl:=[13,22,24,29,31,36,44,46,55,57,58],lw:=[8,10,11],loops:=[(0,{vals:=vN [6,17,18,19]}),(2,{vals:=vN [6,8,17,18,19,24,25,26]})]}
def EM:Ann:={kinds:=[(5,.S),(8,.S),(11,.S)],nl:=[14,20,22,24,27,29,34,38,41,47,49,52,55,58,60,65,70,76,78,80,83,86,88,93],lw:=[5,8,11],loops:=[(0,{vals:=vN [1,14,15,16]}),(2,{vals:=vN [1,41,42,43]}),(4,{vals:=vN [1,70,71,72]})]}
def EN:Ann:={iso:=false,kinds:=[(8,.S),(10,.S)],hl:=[95],no:=[51],nl:=[15,21,26,34,36,48,49,54,56,65,73,81,90,95,97,101],lw:=[6,8,10],joins:=[(60,{vals:=vN [0,1,5,15,60,7000,7001],locs:=[(6,7000,0)],lbs:=[(7000,2)]}),(91,{vals:=vN [5,12,7000,7001],locs:=[(6,7000,0)],lbs:=[(7000,2)]})],ords:=[(11,[0,1,3,4,5,6,7,9,10,11,12,2,8,13,14,15,16,17])]}
def EO:Ann:={nl:=[6,8,12]}
def EP:Ann:={nl:=[11,13,15,17,19,38,49],joins:=[(30,{vals:=vN [2,5,6,7,8,9,19,30]}),(41,{vals:=vN [2,5,6,7,8,9,19,41]}),(53,{vals:=vN [5,6,7,8,9,19,53]}),(106,{vals:=vN [5,6,7,8,9,106]}),(1000000,{vals:=vN [5,6,7,8,9]})]}
def EQ:Ann:={nl:=[5,25,30],joins:=[(6,{vals:=vN [1,5,6]}),(11,{vals:=vN [1,5,11]}),(17,{vals:=vN [1,5,17]})]}
def ER:Ann:={kinds:=[(5,.S)],no:=[19,26,29],nl:=[7,10,12,18,25],lw:=[5]}
def HG:Ann:={lw:=[2]}
def HH:Ann:={lw:=[2]}
def ES:Ann:={}
def ET:Ann:={nl:=[15],loops:=[(0,{vals:=vN [0,1,7,8]})]}
def xy:Ann:={}
def EU:Ann:={}
def EV:Ann:={nl:=[20,24],loops:=[(0,{vals:=vN [0,1,5]})]}
def EW:Ann:={nl:=[15,27,31],loops:=[(0,{vals:=vN [1,2,3,7,8]})]}
def EX:Ann:={nl:=[13,21,33,36],loops:=[(0,{vals:=vN [1,2,3,7,8]})]}
def EY:Ann:={kinds:=[(6,.S)],nl:=[11,16,21,27,31,37,43,45,53,55,60,66],lw:=[6],loops:=[(0,{vals:=vN [1,2,37,38,39]})]}
def EZ:Ann:={kinds:=[(5,.S),(8,.S)],nl:=[13,18,22,31,37,39,44,46,51,53,58,61,66,71,76,77],lw:=[5,8],loops:=[(0,{vals:=vN [1,71,72,73]})]}
def E0:Ann:={lw:=[2]}
def E1:Ann:={nl:=[16],loops:=[(0,{vals:=vN [0,1,5]})]}
def E2:Ann:={iso:=false,hl:=[8],nl:=[8]}
def E3:Ann:={iso:=false,hl:=[23,28,39,44],nl:=[14,23,28,33,39,44]}
def E4:Ann:={iso:=false,kinds:=[(7,.S)],nl:=[13,15],lw:=[7],loops:=[(0,{vals:=vN [0,2,8,9,10]})]}
def E6:Ann:={iso:=false,nl:=[6,28,34,39,41,43,49,53],lw:=[4]}
def E7:Ann:={}
def Fa:Ann:={loops:=[(0,{vals:=vN [0,1,5]})]}
def Fb:Ann:={}
def Fc:Ann:={}
def Fe:Ann:={nl:=[3]}
def Ff:Ann:={}
def Fg:Ann:={nl:=[3]}
def Fh:Ann:={kinds:=[(10,.S),(15,.H)],hl:=[31],hb:=[14],nl:=[19,31,34,35],lw:=[10]}
def xz:Ann:={}
def Fi:Ann:={iso:=false,kinds:=[(8,.S),(10,.S)],hl:=[17],nl:=[17,19,27,33,35,45,46,50],lw:=[6,8,10],joins:=[(28,{vals:=vN [8,7000,7001],locs:=[(6,7000,0)],lbs:=[(7000,2)]})],ords:=[(1,[0,1,2,3,4,5,6,11,7,8,9,10,12,13])]}
def Fj:Ann:={iso:=false,kinds:=[(8,.S),(13,.S)],hl:=[63],nl:=[16,24,27,35,49,50,52,55,63,65,70],lw:=[6,8,13],loops:=[(0,{vals:=vN [0,8,43,44,45,7000,7001],locs:=[(6,7000,0)],lbs:=[(7000,2)]})]}
def Fl:Ann:={iso:=false,kinds:=[(10,.S),(11,.S)],no:=[31],nl:=[18,22,30],lw:=[10,11],loops:=[(0,{vals:=[(0,none),(1,none),(8,some 2),(13,none),(14,none),(15,none)]})]}
def Fo:Ann:={kinds:=[(7,.H),(10,.S)],hl:=[77,104],ha:=[86],hb:=[7,12],no:=[85],nl:=[14,49,51,52,54,60,63,69,75,77,79,82,83,92,95,97,104],lw:=[4,10],joins:=[(15,{vals:=vN [2,3,6,7,8,14,15,5000,5001],locs:=[(4,5000,0)],lbs:=[(5000,2)]}),(39,{vals:=vN [2,3,6,7,8,14,39,5000,5001],locs:=[(4,5000,0)],lbs:=[(5000,2)]}),(1000000,{vals:=vN [7,8,5000,5001],locs:=[(4,5000,0)],lbs:=[(5000,2)]})],loops:=[(1,{vals:=vN [2,7,8,69,70,71,5000,5001],locs:=[(4,5000,0)],lbs:=[(5000,2)]})]}
def Fp:Ann:={}
def Fq:Ann:={kinds:=[(4,.S)],nl:=[8,10,17,19],lw:=[4]}
def Ft:Ann:={nl:=[11,23],loops:=[(0,{vals:=vN [0,5,6,7]})]}
def Fu:Ann:={}
def Fv:Ann:={}
def Fw:Ann:={nl:=[6,8,11,16,23,30,36,45,54,58,63,65],lw:=[2,4,17,24,31,37,46,55,66,67],joins:=[(12,{vals:=vN [1,11,12,3000,3001,3002,3003,3004,3005,5000,5001,5002,5003,5004,5005],locs:=[(2,3000,0),(4,5000,0)],lbs:=[(3000,6),(5000,6)]}),(19,{vals:=vN [1,11,19,3000,3001,3002,3003,3004,3005,5000,5001,5002,5003,5004,5005],locs:=[(2,3000,0),(4,5000,0)],lbs:=[(3000,6),(5000,6)]}),(26,{vals:=vN [1,11,26,3000,3001,3002,3003,3004,3005,5000,5001,5002,5003,5004,5005],locs:=[(2,3000,0),(4,5000,0)],lbs:=[(3000,6),(5000,6)]})]}
def Fx:Ann:={nl:=[6,10,14,20,24,30,34,39,44,54,59,63,67,73,80,86,96,100,106],joins:=[(47,{vals:=vN [1,6,47]})],loops:=[(1,{vals:=vN [1,80,81,82]})]}
def zW:Ann:={nl:=[15],loops:=[(0,{vals:=vN [0,1,7,8]})]}
def zX:Ann:={nl:=[5,6]}
def zY:Ann:={nl:=[15],loops:=[(0,{vals:=vN [0,1,7,8]})]}
def zZ:Ann:={iso:=false,kinds:=[(7,.S),(10,.S),(11,.S)],hl:=[21,31,60,81],hb:=[8,39],no:=[51],nl:=[15,21,31,34,36,38,41,46,50,60,62,67,81,83,89,92],lw:=[4,7,8,10,11,53],loops:=[(0,{vals:=[(41,none),(42,none),(43,none),(5000,none),(5001,none),(5002,none),(5003,none),(5004,none),(9000,none),(9001,some 2),(9002,none),(9003,none),(9004,none)],locs:=[(4,5000,0),(8,9000,0)],lbs:=[(5000,5),(9000,5)]})],nils:=[(8,[1])]}
def z8:Ann:={nl:=[4]}
def Aa:Ann:={nl:=[5,6]}
def Ab:Ann:={kinds:=[(8,.S),(9,.S),(11,.S)],hb:=[6,21],no:=[52],nl:=[14,16,20,23,28,31,33,40,41,49,50],lw:=[4,6,8,9,11,54],loops:=[(0,{vals:=[(3,none),(23,none),(24,none),(25,none),(5000,none),(5001,none),(7000,none),(7001,some 3)],locs:=[(4,5000,0),(6,7000,0)],lbs:=[(5000,2),(7000,2)]})],nils:=[(6,[1])]}
def Ac:Ann:={}
def Ad:Ann:={nl:=[15],loops:=[(0,{vals:=vN [0,1,7,8]})]}
def Ae:Ann:={nl:=[5,7]}
def Af:Ann:={nl:=[15],loops:=[(0,{vals:=vN [0,1,7,8]})]}
def Ag:Ann:={nl:=[5,7]}
def Ah:Ann:={}
noncomputable def zK:List (Nat×(Func×Ann)):=[
(5,(Tryz.f5,HF)),
(6,(Tryz.f6,F7)),
(8,(Tryz.f8,HI)),
(9,(Tryz.f9,HJ)),
(10,(Tryz.f10,Eg)),
(11,(Tryz.f11,Eh)),
(12,(Tryz.f12,Ei)),
(13,(Tryz.f13,Ej)),
(14,(Tryz.f14,Ek)),
(15,(Tryz.f15,El)),
(16,(Tryz.f16,Em)),
(17,(Tryz.f17,En)),
(18,(Tryz.f18,Eo)),
(19,(Tryz.f19,HD)),
(20,(Tryz.f20,HE)),
(21,(Tryz.f21,Ep)),
(23,(Tryz.f23,Er)),
(25,(Tryz.f25,Es)),
(26,(Tryz.f26,Et)),
(27,(Tryz.f27,Eu)),
(28,(Tryz.f28,Ev)),
(29,(Tryz.f29,Ew)),
(30,(Tryz.f30,Ex)),
(31,(Tryz.f31,Ey)),
(32,(Tryz.f32,Ez)),
(33,(Tryz.f33,EA)),
(34,(Tryz.f34,EB)),
(35,(Tryz.f35,EC)),
(36,(Tryz.f36,ED)),
(37,(Tryz.f37,EF)),
(38,(Tryz.f38,EG)),
(39,(Tryz.f39,EH)),
(40,(Tryz.f40,EI)),
(41,(Tryz.f41,EJ)),
(43,(Tryz.f43,EK)),
(44,(Tryz.f44,EL)),
(45,(Tryz.f45,EM)),
(46,(Tryz.f46,EN)),
(47,(Tryz.f47,EO)),
(48,(Tryz.f48,EP)),
(49,(Tryz.f49,EQ)),
(50,(Tryz.f50,ER)),
(51,(Tryz.f51,HG)),
(52,(Tryz.f52,HH)),
(56,(Tryz.f56,ES)),
(58,(Tryz.f58,ET)),
(60,(Tryz.f60,EU)),
(61,(Tryz.f61,EV)),
(62,(Tryz.f62,EW)),
(63,(Tryz.f63,EX)),
(64,(Tryz.f64,EY)),
(65,(Tryz.f65,EZ)),
(66,(Tryz.f66,E0)),
(67,(Tryz.f67,E1)),
(68,(Tryz.f68,E2)),
(69,(Tryz.f69,E3)),
(70,(Tryz.f70,E4)),
(71,(Tryz.f71,E6)),
(72,(Tryz.f72,E7)),
(73,(Tryz.f73,Fa)),
(74,(Tryz.f74,Fb)),
(75,(Tryz.f75,Fc)),
(77,(Tryz.f77,Fe)),
(78,(Tryz.f78,Ff)),
(79,(Tryz.f79,Fg)),
(80,(Tryz.f80,Fh)),
(83,(Tryz.f83,Fi)),
(84,(Tryz.f84,Fj)),
(85,(Tryz.f85,Fl)),
(86,(Tryz.f86,Fo)),
(87,(Tryz.f87,Fp)),
(88,(Tryz.f88,Fq)),
(89,(Tryz.f89,Ft)),
(94,(Tryz.f94,Fu)),
(97,(Tryz.f97,Fv)),
(98,(Tryz.f98,Fw)),
(99,(Tryz.f99,Fx)),
(100,(Tryz.f100,zW)),
(101,(Tryz.f101,zX)),
(103,(Tryz.f103,zY)),
(105,(Tryz.f105,zZ)),
(106,(Tryz.f106,z8)),
(107,(Tryz.f107,Aa)),
(108,(Tryz.f108,Ab)),
(121,(Tryz.f121,Ac)),
(127,(Tryz.f127,Ad)),
(128,(Tryz.f128,Ae)),
(129,(Tryz.f129,Af)),
(130,(Tryz.f130,Ag)),
(131,(Tryz.f131,Ah))]
def xM:List (Nat×(Func×Ann))->Nat->Option (Func×Ann)
 |[],_=>none
 |(k,x):: r,t=>bif Nat.beq k t then some x else xM r t
def own:FuncId->Option Nat:=fun f=>bif Nat.beq f 59 then some 1 else bif Nat.beq f 82 then some 3 else none
noncomputable def other:FuncId->Option ((FuncId->List AV->M AV)->List AV->M AV):=fun f=>
 bif Nat.beq f 22 then some (rk)else bif Nat.beq f 24 then some (ew 5)else bif Nat.beq f 42 then some (iK)else bif Nat.beq f 53 then some (g7 [(71,2)])else bif Nat.beq f 55 then some (gR)else bif Nat.beq f 57 then some (qQ 175)else bif Nat.beq f 59 then some (eQ T 35)else bif Nat.beq f 81 then some (kC)else bif Nat.beq f 82 then some (eQ T 36)else none
noncomputable def pg:Pg:={ T:=T,funcs:=xM zK,own:=own,other:=other,nw:=fun f=>  false }
noncomputable def tP(call:FuncId->List AV->M AV):FuncId->List AV->M AV:=fun f args=>bif pg.iso f then cW (call f args)else call f args
def aI:dY pg:=by
 intro f E hE call calls hc;have h0:other f=some E:=hE;unfold other at h0;rcases eK h0 with rfl|h0
 ·exact bm.const _
 rcases eK h0 with rfl|h0
 ·exact bm.const _
 rcases eK h0 with rfl|h0
 ·exact bm.const _
 rcases eK h0 with rfl|h0
 ·exact bm.const _
 rcases eK h0 with rfl|h0
 ·exact bm.const _
 rcases eK h0 with rfl|h0
 ·exact bm.const _
 rcases eK h0 with rfl|h0
 ·exact oR _ _ _ _
 rcases eK h0 with rfl|h0
 ·exact bm.const _
 rcases eK h0 with rfl|h0
 ·exact oR _ _ _ _
 cases h0
end Go.Proofs.YtpmcemjkdkbicaaGreatDoor
namespace Go.Proofs.YtpmcemjkdkbicaaGreatDoor
open Go Go.Av
set_option maxRecDepth 1000000
instance dr0:Dr:=⟨False⟩
def sT{p:Prop}(h:Dr.on):p:=False.elim h
def GZ:(tab.map fun x=>G0 Tryz.prog x.1)=tab.map fun x=>some x.2:=by kernel_rfl
theorem rb:(l:List (Nat×TI))->(t:Nat)->(ti:TI)->xN l t=some ti->(t,ti)∈l
 |[],t,ti,h=>by cases h
 | (k,x):: r,t,ti,h=>by
  simp only[xN]at h;cases hk:Nat.beq k t with
  |true=>
   rw[hk]at h;simp only[LF,LA]at h
   have:=LN hk
   subst this h;exact M6
  |false=>
   rw[hk]at h;exact M8 _ (rb r t ti h)
theorem jk{α β:Type}{f g:α->β}:{l:List α} ->l.map f=l.map g->∀x∈l,f x=g x
 |[],_,x,hx=>by cases hx
 |a:: l,h,x,hx=>by
  simp only[Mi,Oh]at h;rcases LU.1 hx with rfl|hx
  ·exact h.1
  ·exact jk h.2 x hx
def tok:TOK Tryz.prog T:=⟨fun t ti h=>jk GZ (t,ti) (rb tab t ti h),by kernel_rfl⟩
def D9:(zK.map fun x=>Tryz.prog.funcs[x.1]?)=zK.map fun x=>some x.2.1:=by kernel_rfl
def xt:(zK.map fun x=>x.2.1.name== "runtime.NumGoroutine")=zK.map fun _=>false:=by kernel_rfl
theorem ra:(l:List (Nat×(Func×Ann)))->(t:Nat)->(x:Func×Ann)->xM l t=some x->(t,x)∈l
 |[],t,ti,h=>by cases h
 | (k,x):: r,t,ti,h=>by
  simp only[xM]at h;cases hk:Nat.beq k t with
  |true=>
   rw[hk]at h;simp only[LF,LA]at h
   have:=LN hk
   subst this h;exact M6
  |false=>
   rw[hk]at h;exact M8 _ (ra r t ti h)
def A7:∀f fn a,pg.funcs f=some (fn,a)->Tryz.prog.funcs[f]? = some fn/\(fn.name== "runtime.NumGoroutine")=false:=by
 intro f fn a h
 have:=ra zK f (fn,a) h
 exact⟨jk D9 _ this,jk xt _ this⟩
end Go.Proofs.YtpmcemjkdkbicaaGreatDoor
namespace Go.Proofs.YtpmcemjkdkbicaaGreatDoor
open Go Go.Av Go.RowKit
set_option maxRecDepth 100000
def below_grow(w:World)(k:Nat)(os:Array Obj):Below w.heap.size w (Go.Sort.grow (w.drewN k) os):=by
 refine (show Below w.heap.size w (w.drewN k)from⟨rfl,rfl,rfl,LI _,fun _ _=>rfl⟩).trans ⟨rfl,rfl,rfl,?_,fun b hb=>?_⟩
 ·simp[Go.Sort.grow]
 ·have hb':b<(w.drewN k).heap.size:=hb;show ((w.drewN k).heap++os)[b]? = _;rw[OD hb']
def Ea{w:World}(h:GOKw w):Lib.TabIs Tryz.prog w "internal/strconv.uint64pow10" .u64 Lib.pow10Tab:=by
 obtain⟨t,fr,hp⟩:=h.pow
 have hn:Tryz.prog.globalNamed "internal/strconv.uint64pow10" = some 2:=by kernel_rfl
 unfold Lib.TabIs World.var?;rw[hn];simp only[NP,hp]
def Iz(call:FuncId->List AV->M AV)(args:List AV)(h:Hp)(S:aF)(β:List bO)(w:World)(vs:List Value)(hr:rk call args h≠.fail)(hg:qK S β h w)(hw:Wf S w)(hh:de S β w h)(hv:bg S β args vs):
  Calls Tryz.prog 22 vs.toArray w (ee none S β h w (rk call args h)):=by
 unfold rk at hr |-;split at hr
 ·rename_i n;simp only[bg,VR]at hv;obtain⟨v,r,rfl,rfl,rfl⟩:=hv;cases hc:(decide (-9223372036854775808<=n)&&decide (n<=9223372036854775807))with
  |false=>rw[hc]at hr;exact absurd rfl hr
  |true=>
   simp only[LD,LB]at hc;simp only[LF];refine (Any.strconv_Itoa Ls n hc.1 hc.2 w (Ea hg.1)).mono ?_;rintro e w' ⟨rfl,k,os,rfl⟩;exact dM hw hh (below_grow w k os) sT (by simp only[VR];exact⟨_,rfl,by rw[Bg hc.1 hc.2]⟩)
 ·exact absurd rfl hr
def mw{S:aF}{β:List bO}{s:List UInt8}{r:List Value}{l:List AV}(hv:bg S β (.str s:: l) r):∃x r',r= .string x:: r'/\x.data.toList=s/\bg S β l r':=by
 simp only[bg,VR]at hv;obtain⟨v,r',rfl,⟨x,rfl,hx⟩,h⟩:=hv;exact⟨x,r',rfl,hx,h⟩
def IB(call:FuncId->List AV->M AV)(args:List AV)(h:Hp)(S:aF)(β:List bO)(w:World)(vs:List Value)(hr:iK call args h≠.fail)(hg:qK S β h w)(hw:Wf S w)(hh:de S β w h)(hv:bg S β args vs):
  Calls Tryz.prog 42 vs.toArray w (ee none S β h w (iK call args h)):=by
 unfold iK at hr |-;split at hr
 ·rename_i s t;obtain⟨x,r,rfl,hx,hv⟩:=mw hv;obtain⟨y,r,rfl,hy,hv⟩:=mw hv;simp only[bg]at hv;subst hv;cases hc:decide (s.length<4294967281)with
  |false=>rw[hc]at hr;exact absurd rfl hr
  |true=>
   simp only[LF];have hlen:x.size=s.length:=by rw[<- hx,MB];rfl
   obtain⟨m,hm⟩:=hg.1.max;refine (Any.strings_Contains Lu x y m w (by have:=NF hc;omega) hm).mono ?_;rintro e w' ⟨rfl,rfl⟩;exact dM hw hh (Below.refl _ _) sT (by simp only[VR];rw[hx,hy])
 ·exact absurd rfl hr
end Go.Proofs.YtpmcemjkdkbicaaGreatDoor
namespace Go.Proofs
open Go.Shelf
def Lp:Go.Shelf.Ren:=⟨fun|172=>57|244=>95|245=>96|247=>116|279=>117|280=>118|281=>119|282=>120|287=>138|316=>139|171=>22|205=>140|321=>145|322=>146|243=>54|246=>91|283=>109|284=>110|285=>111|286=>112|129=>133|317=>132|318=>134|319=>135|320=>136|337=>143|338=>144|n=>n,fun|9=>9|3=>3|75=>73|76=>74|4=>4|5=>5|167=>172|37=>69|0=>0|85=>173|2=>2|168=>175|53=>164|175=>190|46=>179|210=>194|127=>121|145=>206|143=>204|21=>21|171=>163|173=>167|212=>186|51=>187|20=>20|213=>188|232=>207|233=>208|80=>78|n=>n,fun|15=>3|16=>4|17=>2|18=>7|19=>8|n=>n⟩
def Lm:Go.Proofs.LaysC.n172 Tryz.prog Lp:={
 mixed:=by kernel_rfl
 f129:=Tryz.func133.trans (LG some (by kernel_rfl))
 f171:=Tryz.func22.trans (LG some (by kernel_rfl))
 f172:=Tryz.func57.trans (LG some (by kernel_rfl))
 f205:=Tryz.func140.trans (LG some (by kernel_rfl))
 f243:=Tryz.func54.trans (LG some (by kernel_rfl))
 f244:=Tryz.func95.trans (LG some (by kernel_rfl))
 f245:=Tryz.func96.trans (LG some (by kernel_rfl))
 f246:=Tryz.func91.trans (LG some (by kernel_rfl))
 f247:=Tryz.func116.trans (LG some (by kernel_rfl))
 f279:=Tryz.func117.trans (LG some (by kernel_rfl))
 f280:=Tryz.func118.trans (LG some (by kernel_rfl))
 f281:=Tryz.func119.trans (LG some (by kernel_rfl))
 f282:=Tryz.func120.trans (LG some (by kernel_rfl))
 f283:=Tryz.func109.trans (LG some (by kernel_rfl))
 f284:=Tryz.func110.trans (LG some (by kernel_rfl))
 f285:=Tryz.func111.trans (LG some (by kernel_rfl))
 f286:=Tryz.func112.trans (LG some (by kernel_rfl))
 f287:=Tryz.func138.trans (LG some (by kernel_rfl))
 f316:=Tryz.func139.trans (LG some (by kernel_rfl))
 f317:=Tryz.func132.trans (LG some (by kernel_rfl))
 f318:=Tryz.func134.trans (LG some (by kernel_rfl))
 f319:=Tryz.func135.trans (LG some (by kernel_rfl))
 f320:=Tryz.func136.trans (LG some (by kernel_rfl))
 f321:=Tryz.func145.trans (LG some (by kernel_rfl))
 f322:=Tryz.func146.trans (LG some (by kernel_rfl))
 f337:=Tryz.func143.trans (LG some (by kernel_rfl))
 f338:=Tryz.func144.trans (LG some (by kernel_rfl))
 t0:=Tryz.underlying0
 a0:=Tryz.isAgg0
 z0:=Tryz.sizeOf0
 v0:=Tryz.zeroValue0
 t2:=Tryz.underlying2
 a2:=Tryz.isAgg2
 z2:=Tryz.sizeOf2
 v2:=Tryz.zeroValue2
 t3:=Tryz.underlying3
 a3:=Tryz.isAgg3
 z3:=Tryz.sizeOf3
 v3:=Tryz.zeroValue3
 t4:=Tryz.underlying4
 a4:=Tryz.isAgg4
 z4:=Tryz.sizeOf4
 v4:=Tryz.zeroValue4
 t5:=Tryz.underlying5
 a5:=Tryz.isAgg5
 z5:=Tryz.sizeOf5
 v5:=Tryz.zeroValue5
 t9:=Tryz.underlying9
 a9:=Tryz.isAgg9
 z9:=Tryz.sizeOf9
 v9:=Tryz.zeroValue9
 t20:=Tryz.underlying20
 a20:=Tryz.isAgg20
 z20:=Tryz.sizeOf20
 v20:=Tryz.zeroValue20
 t21:=Tryz.underlying21
 a21:=Tryz.isAgg21
 z21:=Tryz.sizeOf21
 v21:=Tryz.zeroValue21
 t37:=Tryz.underlying69
 a37:=Tryz.isAgg69
 z37:=Tryz.sizeOf69
 v37:=Tryz.zeroValue69
 t46:=Tryz.underlying179
 a46:=Tryz.isAgg179
 z46:=Tryz.sizeOf179
 v46:=Tryz.zeroValue179
 t51:=Tryz.underlying187
 a51:=Tryz.isAgg187
 z51:=Tryz.sizeOf187
 v51:=Tryz.zeroValue187
 t53:=Tryz.underlying164
 a53:=Tryz.isAgg164
 z53:=Tryz.sizeOf164
 v53:=Tryz.zeroValue164
 t75:=Tryz.underlying73
 a75:=Tryz.isAgg73
 z75:=Tryz.sizeOf73
 v75:=Tryz.zeroValue73
 t76:=Tryz.underlying74
 a76:=Tryz.isAgg74
 z76:=Tryz.sizeOf74
 v76:=Tryz.zeroValue74
 t85:=Tryz.underlying173
 a85:=Tryz.isAgg173
 z85:=Tryz.sizeOf173
 v85:=Tryz.zeroValue173
 t127:=Tryz.underlying121
 a127:=Tryz.isAgg121
 z127:=Tryz.sizeOf121
 v127:=Tryz.zeroValue121
 t143:=Tryz.underlying204
 a143:=Tryz.isAgg204
 z143:=Tryz.sizeOf204
 v143:=Tryz.zeroValue204
 t145:=Tryz.underlying206
 a145:=Tryz.isAgg206
 z145:=Tryz.sizeOf206
 v145:=Tryz.zeroValue206
 t167:=Tryz.underlying172
 a167:=Tryz.isAgg172
 z167:=Tryz.sizeOf172
 v167:=Tryz.zeroValue172
 t168:=Tryz.underlying175
 a168:=Tryz.isAgg175
 z168:=Tryz.sizeOf175
 v168:=Tryz.zeroValue175
 t171:=Tryz.underlying163
 a171:=Tryz.isAgg163
 z171:=Tryz.sizeOf163
 v171:=Tryz.zeroValue163
 t173:=Tryz.underlying167
 a173:=Tryz.isAgg167
 z173:=Tryz.sizeOf167
 v173:=Tryz.zeroValue167
 t175:=Tryz.underlying190
 a175:=Tryz.isAgg190
 z175:=Tryz.sizeOf190
 v175:=Tryz.zeroValue190
 t210:=Tryz.underlying194
 a210:=Tryz.isAgg194
 z210:=Tryz.sizeOf194
 v210:=Tryz.zeroValue194
 t212:=Tryz.underlying186
 a212:=Tryz.isAgg186
 z212:=Tryz.sizeOf186
 v212:=Tryz.zeroValue186
 t213:=Tryz.underlying188
 a213:=Tryz.isAgg188
 z213:=Tryz.sizeOf188
 t232:=Tryz.underlying207
 a232:=Tryz.isAgg207
 z232:=Tryz.sizeOf207
 v232:=Tryz.zeroValue207
 t233:=Tryz.underlying208
 a233:=Tryz.isAgg208
 z233:=Tryz.sizeOf208
 v233:=Tryz.zeroValue208
 g15:=by kernel_rfl
 g16:=by kernel_rfl
 g17:=by kernel_rfl
 g18:=by kernel_rfl
 g19:=by kernel_rfl
 t80:=Tryz.underlying78
 a80:=Tryz.isAgg78
 z80:=Tryz.sizeOf78
 v80:=Tryz.zeroValue78
 i0:=by kernel_rfl
 i2:=by kernel_rfl
 i3:=by kernel_rfl
 i4:=by kernel_rfl
 i5:=by kernel_rfl
 i9:=by kernel_rfl
 i20:=by kernel_rfl
 i21:=by kernel_rfl
 i37:=by kernel_rfl
 i46:=by kernel_rfl
 i51:=by kernel_rfl
 i53:=by kernel_rfl
 i75:=by kernel_rfl
 i76:=by kernel_rfl
 i80:=by kernel_rfl
 i85:=by kernel_rfl
 i127:=by kernel_rfl
 i143:=by kernel_rfl
 i145:=by kernel_rfl
 i167:=by kernel_rfl
 i168:=by kernel_rfl
 i171:=by kernel_rfl
 i173:=by kernel_rfl
 i175:=by kernel_rfl
 i210:=by kernel_rfl
 i212:=by kernel_rfl
 i232:=by kernel_rfl
 i233:=by kernel_rfl
 m15:=by kernel_rfl
 m16:=by kernel_rfl
 m17:=by kernel_rfl
 m18:=by kernel_rfl
 m19:=by kernel_rfl
 c0:=by kernel_rfl
 c2:=by kernel_rfl
 c3:=by kernel_rfl
 c4:=by kernel_rfl
 c5:=by kernel_rfl
 c9:=by kernel_rfl
 c20:=by kernel_rfl
 c21:=by kernel_rfl
 c37:=by kernel_rfl
 c46:=by kernel_rfl
 c51:=by kernel_rfl
 c53:=by kernel_rfl
 c75:=by kernel_rfl
 c76:=by kernel_rfl
 c80:=by kernel_rfl
 c85:=by kernel_rfl
 c127:=by kernel_rfl
 c143:=by kernel_rfl
 c145:=by kernel_rfl
 c167:=by kernel_rfl
 c168:=by kernel_rfl
 c171:=by kernel_rfl
 c173:=by kernel_rfl
 c175:=by kernel_rfl
 c210:=by kernel_rfl
 c212:=by kernel_rfl
 c213:=by kernel_rfl
 c232:=by kernel_rfl
 c233:=by kernel_rfl }
def Lq:Go.Shelf.Ren:=⟨fun|221=>55|268=>92|138=>93|143=>76|195=>113|197=>114|218=>115|219=>102|260=>137|217=>122|225=>123|224=>124|267=>125|266=>141|314=>142|n=>n,fun|9=>9|3=>3|31=>35|4=>4|0=>0|105=>169|21=>21|5=>5|46=>179|119=>199|139=>202|138=>201|146=>196|51=>187|n=>n,fun|1=>1|3=>5|4=>6|n=>n⟩
def Lt:Go.Proofs.Lays.n221 Tryz.prog Lq:={
 mixed:=by kernel_rfl
 f138:=Tryz.func93.trans (LG some (by kernel_rfl))
 f143:=Tryz.func76.trans (LG some (by kernel_rfl))
 f195:=Tryz.func113.trans (LG some (by kernel_rfl))
 f197:=Tryz.func114.trans (LG some (by kernel_rfl))
 f217:=Tryz.func122.trans (LG some (by kernel_rfl))
 f218:=Tryz.func115.trans (LG some (by kernel_rfl))
 f219:=Tryz.func102.trans (LG some (by kernel_rfl))
 f221:=Tryz.func55.trans (LG some (by kernel_rfl))
 f224:=Tryz.func124.trans (LG some (by kernel_rfl))
 f225:=Tryz.func123.trans (LG some (by kernel_rfl))
 f260:=Tryz.func137.trans (LG some (by kernel_rfl))
 f266:=Tryz.func141.trans (LG some (by kernel_rfl))
 f267:=Tryz.func125.trans (LG some (by kernel_rfl))
 f268:=Tryz.func92.trans (LG some (by kernel_rfl))
 f314:=Tryz.func142.trans (LG some (by kernel_rfl))
 t0:=Tryz.underlying0
 a0:=Tryz.isAgg0
 z0:=Tryz.sizeOf0
 v0:=Tryz.zeroValue0
 t3:=Tryz.underlying3
 a3:=Tryz.isAgg3
 z3:=Tryz.sizeOf3
 v3:=Tryz.zeroValue3
 t4:=Tryz.underlying4
 a4:=Tryz.isAgg4
 z4:=Tryz.sizeOf4
 v4:=Tryz.zeroValue4
 t5:=Tryz.underlying5
 a5:=Tryz.isAgg5
 z5:=Tryz.sizeOf5
 v5:=Tryz.zeroValue5
 t9:=Tryz.underlying9
 a9:=Tryz.isAgg9
 z9:=Tryz.sizeOf9
 v9:=Tryz.zeroValue9
 t21:=Tryz.underlying21
 a21:=Tryz.isAgg21
 z21:=Tryz.sizeOf21
 v21:=Tryz.zeroValue21
 t31:=Tryz.underlying35
 a31:=Tryz.isAgg35
 z31:=Tryz.sizeOf35
 v31:=Tryz.zeroValue35
 t46:=Tryz.underlying179
 a46:=Tryz.isAgg179
 z46:=Tryz.sizeOf179
 v46:=Tryz.zeroValue179
 t51:=Tryz.underlying187
 a51:=Tryz.isAgg187
 z51:=Tryz.sizeOf187
 v51:=Tryz.zeroValue187
 t105:=Tryz.underlying169
 a105:=Tryz.isAgg169
 z105:=Tryz.sizeOf169
 v105:=Tryz.zeroValue169
 t119:=Tryz.underlying199
 a119:=Tryz.isAgg199
 z119:=Tryz.sizeOf199
 t138:=Tryz.underlying201
 a138:=Tryz.isAgg201
 z138:=Tryz.sizeOf201
 v138:=Tryz.zeroValue201
 t139:=Tryz.underlying202
 a139:=Tryz.isAgg202
 z139:=Tryz.sizeOf202
 v139:=Tryz.zeroValue202
 t146:=Tryz.underlying196
 a146:=Tryz.isAgg196
 z146:=Tryz.sizeOf196
 v146:=Tryz.zeroValue196
 g1:=by kernel_rfl
 g3:=by kernel_rfl
 g4:=by kernel_rfl }
end Go.Proofs
namespace Go.Proofs.YtpmcemjkdkbicaaGreatDoor
open Go Go.Av Go.RowKit
set_option maxRecDepth 100000
def IE(call:FuncId->List AV->M AV)(args:List AV)(h:Hp)(S:aF)(β:List bO)(w:World)(vs:List Value)(hr:qQ 175 call args h≠.fail)(hg:qK S β h w)(hw:Wf S w)(hh:de S β w h)(hv:bg S β args vs):
  Calls Tryz.prog 57 vs.toArray w (ee none S β h w (qQ 175 call args h)):=by
 unfold qQ at hr |-;split at hr
 ·rename_i s;obtain⟨x,r,rfl,hx,hv⟩:=mw hv;simp only[bg]at hv;subst hv;cases hc:decide (s.length<=281474976710656)with
  |false=>rw[hc]at hr;exact absurd rfl hr
  | true=>
   simp only[LF];have hlen:x.size=s.length:=by rw[<- hx,MB];rfl
   have hlim:=NF hc;subst hx;cases ha:Lib.atoiAll x.data.toList with
   |ok v=>
    refine (Any.strconv_Atoi_ok Lm x (by omega) v ha w).mono ?_;rintro e w' ⟨rfl,hW⟩;refine dM hw hh ?_ sT (by simp only[oJ,ha,VR,bg];exact⟨[_,_],rfl,_,_,rfl,rfl,_,_,rfl,rfl,rfl⟩);rcases hW with rfl|⟨t,rfl⟩
    ·exact Below.refl _ _
    ·exact Lib.bytesWorld_below _ _ _
   |range=>
    obtain⟨t,p,hs⟩:=hg.1.rng;refine (Any.strconv_Atoi_range Lm x (by omega) ha _ w hs (.inr ⟨t,p,rfl⟩)).mono ?_;rintro e w' ⟨N,rfl,_,_,hb⟩;exact dM hw hh hb sT (by simp only[oJ,ha,VR,bg];exact⟨[_,_],rfl,_,_,rfl,rfl,_,_,rfl,⟨_,rfl,trivial⟩,rfl⟩)
   |_=>
    obtain⟨t,p,hs⟩:=hg.1.syn;refine (Any.strconv_Atoi_syntax Lm x (by omega) ha _ w hs (.inr ⟨t,p,rfl⟩)).mono ?_;rintro e w' ⟨N,rfl,_,_,hb⟩;exact dM hw hh hb sT (by simp only[oJ,ha,VR,bg];exact⟨[_,_],rfl,_,_,rfl,rfl,_,_,rfl,⟨_,rfl,trivial⟩,rfl⟩)
 ·exact absurd rfl hr
def Fy:∃j,Tryz.prog.info? 71=some j/\j.size=2:=by
 have h:(Tryz.prog.info? 71).map (·.size)=some 2:=by kernel_rfl
 obtain⟨j,h1,h2⟩:=MD.1 h;exact⟨j,h1,h2⟩
set_option maxHeartbeats 1000000 in
def CY(b:Nat)(w:World)(h0:w.cell? ⟨b,0,none⟩=some (.pointer (some ⟨b,0,none⟩))):
  Calls Tryz.prog 53 #[.pointer (some ⟨b,0,none⟩)] w fun e w'=>e= .returned (.tuple #[])/\w'=w:=by
 obtain⟨j,hj,_⟩:=Fy
 go_enter Tryz.func53,Tryz.ntmps53
 go_wp2
 rw[Lib.run_neq_ptr_same w _ Tryz.underlying68 hj]
 go_wp2
 go_end0
 exact⟨rfl,rfl⟩
set_option maxHeartbeats 1000000 in
def Ax(b T n:Nat)(w:World)(h0:w.cell? ⟨b,0,none⟩=some (.pointer none))(hsh:w.shape? b=some (T,n))(hn:0<n)(hfz:w.frozen? ⟨b,0,none⟩=false)(hlies:liesAt Tryz.prog Tryz.prog.depth T (n / Tryz.prog.cellsOf T) 0 71 1=true):
  Calls Tryz.prog 53 #[.pointer (some ⟨b,0,none⟩)] w fun e w'=>e= .returned (.tuple #[])/\w'=w.setCell ⟨b,0,none⟩ (.pointer (some ⟨b,0,none⟩)):=by
 obtain⟨j,hj,hjs⟩:=Fy
 go_enter Tryz.func53,Tryz.ntmps53
 go_wp2
 rw[Lib.run_to_unsafe w ⟨b,0,none⟩ Tryz.underlying68 Tryz.underlying147 hj (by rw[hjs];decide) hsh hn];simp only[Result.andThen];rw[Oper.upon_value]
 go_wp2
 rw[run_callFunc_extern Tryz.func90 (by kernel_rfl) (by kernel_rfl) (by kernel_rfl) (e:=Extern.AbiNoEscape.same) (by kernel_rfl)];rw[Lib.run_noEscape];simp only[Result.andThen];rw[Oper.upon_value]
 go_wp2
 rw[Lib.run_from_unsafe w ⟨b,0,none⟩ Tryz.underlying147 Tryz.underlying68 hj hsh hlies];simp only[Result.andThen];rw[Oper.upon_value]
 go_wp2
 go_end0
 exact⟨rfl,rfl⟩
def yR:Tryz.prog.cellsOf 5=1:=by kernel_rfl
set_option maxHeartbeats 2000000 in
def GY(b g cap:Nat)(cur:Array Value)(l:List UInt8)(w:World)(h0:l≠[])(hlt:l.length<=cap)(hc1:w.cell? ⟨b,1,none⟩=some (.slice (some ⟨g,0,none⟩) l.length cap))(hg:w.heap[g]? = some (.cells cur 5 (0,0)))(hcm:l.length<=140737488355328)(hsz:l.length<=cur.size)(hcells:∀(j:Nat)(x:UInt8),l[j]? = some x->cur[j]? = some (Value.int .u8 x.toNat)):
  Calls Tryz.prog 24 #[.pointer (some ⟨b,0,none⟩)] w fun e w'=>e= .returned (.string ⟨l.toArray⟩)/\w'=w.drew.freeze ⟨g,0,none⟩ l.length:=by
 have hl0:l.length≠0:=by simpa using h0
 have c1:w.drew.cell? ⟨b,1,none⟩=some (.slice (some ⟨g,0,none⟩) l.length cap):=hc1;have hSD:(Builtin.unsafeSliceData_ #[69] 121 #[.slice (some ⟨g,0,none⟩) l.length cap]).run Tryz.prog w.drew= .ok (.pointer (some ⟨g,0,none⟩)) w.drew:=
  Lib.run_unsafeSliceData_row _ _ _ _ _ _ (by omega)
 have hUS:(Builtin.unsafeString_ #[121,3] 9 #[.pointer (some ⟨g,0,none⟩),.int .i64 l.length]).run Tryz.prog w.drew= .ok (.string ⟨l.toArray⟩) (w.drew.freeze ⟨g,0,none⟩ l.length):=by
  refine Lib.run_unsafeString_row w.drew 121 3 9 5 Tryz.underlying121 yR g cur.size (by have hg':w.drew.heap[g]? = some (.cells cur 5 (0,0)):=hg;simp[World.shape?,hg']) l h0 hsz (by omega) ?_;intro j x hx;have hg':w.drew.heap[g]? = some (.cells cur 5 (0,0)):=hg;rw[addr_add,Ma,cell_of_row _ _ _ _ _ _ hg'];exact hcells j x hx
 go_enter Tryz.func24,Tryz.ntmps24
 go_wp2
 have mixed:Tryz.prog.follows Departure.mixedOrders=true:=by kernel_rfl
 go_region_o
 all_goals (go_wp2;go_ret;exact⟨rfl,rfl⟩)
set_option maxHeartbeats 2000000 in
theorem GX(b:Nat)(w:World)(hc1:w.cell? ⟨b,1,none⟩=some (.slice none 0 0)):
  Calls Tryz.prog 24 #[.pointer (some ⟨b,0,none⟩)] w fun e w'=>e= .returned (.string ⟨#[]⟩)/\w'=w.drew:=by
 have hUS:=fun W q=>Lib.run_unsafeString_none (P:=Tryz.prog) W 121 3 9 q;have c1:w.drew.cell? ⟨b,1,none⟩=some (.slice none 0 0):=hc1;have hSD:(Builtin.unsafeSliceData_ #[69] 121 #[.slice none 0 0]).run Tryz.prog w.drew= .ok (.pointer none) w.drew:=rfl
 go_enter Tryz.func24,Tryz.ntmps24
 go_wp2
 have mixed:Tryz.prog.follows Departure.mixedOrders=true:=by kernel_rfl
 go_region_o
 all_goals (go_wp2;go_ret;exact⟨rfl,rfl⟩)
def xe{P:Program}{fits:TypeId->Bool}{d:Nat}{e:TypeId}{c c' off n:Nat}(hc:c<=c')(h:rowAt P fits d e c off n=true):rowAt P fits d e c' off n=true:=by
 cases d with
 |zero=>simp[rowAt]at h
 | succ d=>
  simp only[rowAt]at h|-;split at h
  ·cases h
  ·rename_i hs;rw[if_neg hs];simp only[ML,LD,LB]at h|-;rcases h with h|h
   ·exact .inl ⟨⟨h.1.1,by omega⟩,h.2⟩
   ·exact .inr ⟨by omega,h.2⟩
theorem nM{P:Program}{u:TypeId}{e:TypeId}{c c' off:Nat}(hc:c<=c'):∀(d:Nat)(u:TypeId)(n:Nat),liesAt P d e c off u n=true->liesAt P d e c' off u n=true
 |0,u,n,h=>by simp[liesAt]at h
 | d+1,u,n,h=>by
  simp only[liesAt,ML]at h|-;rcases h with h|h
  ·exact .inl (xe hc h)
  ·refine .inr ?_;split at h
   ·exact nM (u:=u) hc d _ _ h
   ·cases h
def Iu:liesAt Tryz.prog Tryz.prog.depth 71 1 0 71 1=true:=by kernel_rfl
def Gc:Tryz.prog.cellsOf 71=2:=by kernel_rfl
def vp{w:World}{b:Nat}{z:Array Value}{t:TypeId}(hb:w.heap[b]? = some (.cells z t (0,0)))(v:Value):w.setCell ⟨b,0,none⟩ v=w.setRow b (z.setIfInBounds 0 v):=by
 unfold World.setCell World.setRow;congr 1;apply Array.ext (by simp);intro i h1 h2;simp only[Array.getElem_modify];split
 ·rename_i hi;subst hi;obtain⟨hlt,hk⟩:=Ml.1 hb;rw[hk];rfl
 ·rfl
def IC(call:FuncId->List AV->M AV)(args:List AV)(h:Hp)(S:aF)(β:List bO)(w:World)(vs:List Value)(hr:g7 [(71,2)] call args h≠.fail)(hg:qK S β h w)(hw:Wf S w)(hh:de S β w h)(hv:bg S β args vs):
  Calls Tryz.prog 53 vs.toArray w (ee none S β h w (g7 [(71,2)] call args h)):=by
 unfold g7 at hr |-;cases hpo:zj args with
 |none=>rw[hpo]at hr;exact absurd rfl hr
 | some l=>
  rw[hpo]at hr
  have:=ut hpo
  subst this;simp only[bg,VR]at hv;obtain⟨_,_,rfl,⟨bk,hβ,hb0,rfl⟩,rfl⟩:=hv;obtain⟨b,nb⟩:=bk;dsimp only at hr |-;have hh0:=hh;obtain⟨hlen,ω,hhr⟩:=hh;cases hl:h[l]? with
  |none=>rw[hl]at hr;exact absurd rfl hr
  | some cs=>
   rw[hl]at hr;dsimp only at hr |-;cases hc:HQ [(71,2)] l cs with
   |none=>rw[hc]at hr;exact absurd rfl hr
   | some cs'=>
    dsimp only;rcases CW hc with⟨t,x,r,rfl,rfl,n,hm,hn⟩|⟨r,rfl,rfl⟩
    ·obtain⟨z,j1,j2,j3,j4,j5⟩:=hhr.cells hl (by simp) hβ hb0;obtain⟨y,hy⟩:=hhr.tag hl ⟨_,M6,rfl⟩ hβ;cases j2.inj ⟨t,hy⟩;have hsz:r.length+2<=z.size:=by
      have:=j4.length
      simp at this;omega
     have hz0:z[0]? = some (.pointer none):=by
      have:=j4.get (i:=0) (c:=.nilb t) rfl
      obtain⟨v,h1,h2⟩:=this;simp only[VR]at h2;subst h2;rw[LW]at h1;split at h1
      ·simpa using h1
      ·cases h1
     have hlies:liesAt Tryz.prog Tryz.prog.depth t (z.size / Tryz.prog.cellsOf t) 0 71 1=true:=by
      simp only[LU,Mv,MM,Ng]at hm;obtain⟨rfl,rfl⟩:=hm;rw[Gc];exact nM (u:=71) (by omega) _ _ _ Iu
     refine (Ax b t z.size w (by rw[cell_of_row _ _ _ _ _ _ hy];exact hz0) (by simp[World.shape?,hy]) (by omega) (by simp[World.frozen?,hy]) hlies).mono ?_;rintro e w' ⟨rfl,rfl⟩;rw[vp hy];refine wo hg hw hh0 hl (by simp) hβ j2 (by simp) ?_ (fun t' ht=>?_)
     ·have hzl:z.toList= .pointer none:: z.toList.drop 1:=by
       have:=L9 (l:=z.toList) (i:=0) (by simp;omega)
       simp only[Mx]at this;rw[this];congr 1;have h3:z.toList[0]? = some (.pointer none):=by simpa using hz0
       rw[LY (by simp;omega)]at h3;simpa using h3
      have hz2:(z.setIfInBounds 0 (.pointer (some ⟨b,0,none⟩))).toList= .pointer (some ⟨b,0,none⟩):: z.toList.drop 1:=by
       simp only[Array.toList_setIfInBounds];rw[hzl];rfl
      rw[hz2];rw[hzl]at j4;simp only[LQ,Mt,bg,VR]at j4 |-;obtain⟨_,_,h1,_,h2⟩:=j4;obtain⟨rfl,rfl⟩:=List.cons.inj h1;exact⟨_,_,rfl,⟨(b,nb),hβ,hb0,rfl⟩,h2⟩
     ·rcases ht.cons with ht|ht
      ·cases ht
      ·exact ht.mono fun a ha=>M8 _ ha
    ·obtain⟨z,j1,j2,j3,j4,j5⟩:=hhr.cells hl (by simp) hβ hb0;have hz0:z[0]? = some (.pointer (some ⟨b,0,none⟩)):=by
      have:=j4.get (i:=0) (c:=.hp l 0) rfl
      obtain⟨v,h1,h2⟩:=this;simp only[VR]at h2;obtain⟨bk,hbk,_,rfl⟩:=h2;rw[hβ]at hbk;cases hbk;rw[LW]at h1;split at h1
      ·simpa using h1
      ·cases h1
     have hset:h.set l (.hp l 0:: r)=h:=by
      obtain⟨hlt,hk⟩:=Mf.1 hl;rw[<- hk];exact Oe hlt
     rw[hset];refine (CY b w (by rw[j2.cell];exact hz0)).mono ?_;rintro e w' ⟨rfl,rfl⟩;exact dM hw hh0 (Below.refl _ _) sT (by simp only[VR];exact⟨[],rfl,by simp[bg]⟩)
theorem qX{S:aF}{β:List bO}{e:Nat}:{cs:List AV} ->{s:List UInt8} ->{vs:List Value} ->iA e cs=some s->bg S β cs vs->s.length=cs.length/\(∀(j:Nat)(x:UInt8),s[j]? = some x->vs[j]? = some (Value.int .u8 x.toNat))/\∀x∈cs,my x=some e
 |[],s,vs,h,_=>by
  simp only[iA,LA]at h;subst h;exact⟨rfl,fun j x hx=>by simp at hx,fun x hx=>by cases hx⟩
 | c :: cs,s,vs,h,hv=>by
  simp only[iA]at h;cases h1:qW e c with
  |none=>rw[h1]at h;cases h
  | some b=>
   cases h2:iA e cs with
   |none=>rw[h1,h2]at h;cases h
   | some l=>
    rw[h1,h2]at h;simp only[LA]at h;subst h;simp only[bg]at hv;obtain⟨y,ys,rfl,hy,hv⟩:=hv;obtain⟨k1,k2,k3⟩:=qX h2 hv;unfold qW at h1;split at h1
    ·rename_i t n;cases hc:(Nat.beq t e&&decide (0<=n)&&decide (n<256))with
     |false=>rw[hc]at h1;cases h1
     | true=>
      rw[hc]at h1;simp only[LF,LA]at h1;simp only[LD,LB]at hc;obtain⟨⟨c1,c2⟩,c3⟩:=hc;have c1:=LN c1;subst c1 h1;simp only[VR]at hy;subst hy;refine⟨by simp[k1],fun j x hx=>?_,fun x hx=>?_⟩
      ·cases j with
       |zero=>
        simp only[LV,LA]at hx |-;subst hx;congr 1;have:(UInt8.ofNat n.toNat).toNat=n.toNat % 256:=rfl;rw[this,Nat.mod_eq_of_lt (by omega)];omega
       |succ j=>exact k2 j x (by simpa using hx)
      ·rcases LU.1 hx with rfl|hx
       ·rfl
       ·exact k3 x hx
    ·cases h1
def wH{w:World}{g n:Nat}:Gro w (w.drew.freeze ⟨g,0,none⟩ n)/\(w.drew.freeze ⟨g,0,none⟩ n).heap.size=w.heap.size/\∀k,k≠g->(w.drew.freeze ⟨g,0,none⟩ n).heap[k]? = w.heap[k]?:=by
 have h1:Gro w.drew (w.drew.freeze ⟨g,0,none⟩ n)/\(w.drew.freeze ⟨g,0,none⟩ n).heap.size=w.drew.heap.size/\∀k,k≠g->(w.drew.freeze ⟨g,0,none⟩ n).heap[k]? = w.drew.heap[k]?:=by
  generalize w.drew=v;unfold World.freeze;split
  ·exact⟨Gro.refl _,rfl,fun _ _=>rfl⟩
  ·refine⟨⟨by simp,rfl,rfl,rfl,fun _=>LI _⟩,by simp,fun k hk=>?_⟩;simp only[Array.getElem?_modify];rw[if_neg (by omega)]
 exact⟨(Gro.drew w).trans h1.1,h1.2.1,h1.2.2⟩
def IA(call:FuncId->List AV->M AV)(args:List AV)(h:Hp)(S:aF)(β:List bO)(w:World)(vs:List Value)(hr:ew 5 call args h≠.fail)(hg:qK S β h w)(hw:Wf S w)(hh:de S β w h)(hv:bg S β args vs):
  Calls Tryz.prog 24 vs.toArray w (ee none S β h w (ew 5 call args h)):=by
 unfold ew at hr |-;cases hpo:zj args with
 |none=>rw[hpo]at hr;exact absurd rfl hr
 | some l =>
  rw[hpo]at hr
  have:=ut hpo
  subst this;simp only[bg,VR]at hv;obtain⟨_,_,rfl,⟨bk,hβ,hb0,rfl⟩,rfl⟩:=hv;obtain⟨b,nb⟩:=bk;dsimp only at hr |-;have hh0:=hh;obtain⟨hlen,ω,hhr⟩:=hh;have one:∀ {cs:List AV} {x y:AV} {r:List AV},h[l]? = some cs->cs=x:: y:: r->∃v,w.cell? ⟨b,1,none⟩=some v/\VR S β y v:=by
   rintro cs x y r hl rfl;obtain⟨z,j1,j2,j3,j4,j5⟩:=hhr.cells hl (by simp) hβ hb0;obtain⟨v,h1,h2⟩:=j4.get (i:=1) (c:=y) rfl;rw[LW]at h1;split at h1
   ·exact⟨v,by rw[j2.cell];simpa using h1,h2⟩
   ·cases h1
  cases hl:h[l]? with
  |none=>rw[hl]at hr;exact absurd rfl hr
  | some cs0=>
   rw[hl]at hr;dsimp only at hr |-;cases hst:stA cs0 with
   |none=>rw[hst]at hr;exact absurd rfl hr
   | some q=>
    rw[hst]at hr;cases q with
    |none=>
     dsimp only;obtain⟨x,r,hx⟩:=Cf hst;obtain⟨v,hc1,hv1⟩:=one hl hx;simp only[VR]at hv1;subst hv1;refine (GX b w hc1).mono ?_;rintro e w' ⟨rfl,rfl⟩;exact dM (w':=w.drew) (r:=.str []) (v:=.string ⟨#[]⟩) hw hh0 ⟨rfl,rfl,rfl,LI _,fun _ _=>rfl⟩ sT (by simp only[VR];exact⟨_,rfl,rfl⟩)
    | some q=>
     obtain⟨lb,len⟩:=q;dsimp only at hr |-;obtain⟨x,r,hx,k1,k3⟩:=Cg hst;obtain⟨v,hc1,hv1⟩:=one hl hx;cases hcs:h[lb]? with
     |none=>rw[hcs]at hr;exact absurd rfl hr
     | some cs=>
      rw[hcs]at hr;dsimp only at hr |-;cases hle:Nat.ble len cs.length with
      |false=>rw[hle]at hr;exact absurd rfl hr
      | true=>
       rw[hle]at hr;simp only[LF]at hr |-;have k2:=NJ hle;cases hb:iA 5 (cs.take len)with
       |none=>rw[hb]at hr;exact absurd rfl hr
       | some s=>
        dsimp only;obtain⟨b2,cap,hβ2,hb20,rfl,hlc,hcn⟩:=hv1.hs_pos k1;obtain⟨g,ng⟩:=b2;obtain⟨z,j1,j2,j3,j4,j5⟩:=hhr.cells hcs (by rintro rfl;simp at k2;omega) hβ2 hb20;have j6:=j4.take len;rw[Ns,Na k2]at j6;obtain⟨s1,s2,s3⟩:=qX hb j6;have hsl:s.length=len:=by rw[s1];simp;omega
        have hin:cN 5 cs:=by
         cases cs with
         |nil=>simp at k2;omega
         |cons c cs=>
          refine⟨c,M6,s3 c ?_⟩;obtain⟨m,rfl⟩:∃m,len=m+1:=⟨len-1,by omega⟩;simp
        obtain⟨y,hy⟩:=hhr.tag hcs hin hβ2;cases j2.inj ⟨_,hy⟩;have hzl:cs.length<=z.size:=by have:=j4.length;simp at this;omega
        have hcell:∀(j:Nat)(x:UInt8),s[j]? = some x->z[j]? = some (Value.int .u8 x.toNat):=fun j x hx=>by
         have:=s2 j x hx
         rw[LW]at this;split at this
         ·simpa using this
         ·cases this
        subst hsl;refine (GY b g cap z s w (by rintro rfl;simp at k1) hlc hc1 hy k3 (by omega) hcell).mono ?_;rintro e w' ⟨rfl,rfl⟩;obtain⟨f1,f2,f3⟩:=wH (w:=w) (g:=g) (n:=s.length);exact wn hg hw hh0 hcs (by rintro rfl;rw[Mb]at k2;omega) hβ2 f1 f2 f3 (by simp only[VR];exact⟨_,rfl,rfl⟩)
def ID(call:FuncId->List AV->M AV)(args:List AV)(h:Hp)(S:aF)(β:List bO)(w:World)(vs:List Value)(hr:gR call args h≠.fail)(hg:qK S β h w)(hw:Wf S w)(hh:de S β w h)(hv:bg S β args vs):
  Calls Tryz.prog 55 vs.toArray w (ee none S β h w (gR call args h)):=by
 unfold gR at hr |-;split at hr
 ·rename_i s c sv n;obtain⟨x,r,rfl,hx,hv⟩:=mw hv;obtain⟨y,r,rfl,hy,hv⟩:=mw hv;simp only[bg,VR]at hv;obtain⟨_,_,rfl,rfl,_,_,rfl,rfl,rfl⟩:=hv;cases hc:(decide (s.length<4294967281)&&(sv== 0||sv== 1)&&n== -1)with
  |false=>rw[hc]at hr;exact absurd rfl hr
  | true=>
   simp only[LD,LB,ML,MF]at hc;obtain⟨⟨hc,hsv⟩,rfl⟩:=hc;simp only[LF];have hlen:x.size=s.length:=by rw[<- hx,MB];rfl
   have hsep:y.size=1:=by
    have:y.data.toList.length=1:=by rw[hy];rfl
    rw[MB]at this;exact this
   obtain⟨m,hm⟩:=hg.1.max;have hcnt:Lib.countB x y=s.count c:=by
    show Lib.count x.data.toList y.data.toList=_;rw[hx,hy,Lib.count_one]
   have hcle:=Lib.countB_le y (by omega) x.size x (LI _);obtain⟨k,rfl⟩:∃k:Nat,sv=k:=⟨sv.toNat,by omega⟩;have hall:=Lib.splitB_all y (by omega) k _ x rfl;refine (Any.strings_genSplit Lt (by kernel_rfl) x y k (-1) (Lib.countB x y+1) m w (by omega) hm (by omega) (by omega) (by decide) (by decide) (by rw[LC (by decide)];omega)).mono ?_;rintro e w' ⟨rfl,rfl⟩;rw[Nat.add_sub_cancel,<- hall,Lib.cellsOf_full];have hl:(Lib.splitB y k (Lib.countB x y) x).map (·.data.toList)=Lib.splitK [c] (k:Int).toNat (s.count c) s:=by
    rw[Lib.splitB_data,hx,hy,hcnt,LH]
   exact yT hw hh (((Below.refl _ _).alloc (LI _) _)) sT (Row.new w _ _) (LI _) (Cj S β w.heap.size _ _ hl)
 ·exact absurd rfl hr
end Go.Proofs.YtpmcemjkdkbicaaGreatDoor
namespace Go.Proofs.YtpmcemjkdkbicaaGreatDoor
open Go Go.Av
set_option maxRecDepth 100000
noncomputable def yU(n:Nat)(a:Ann):Cx:={ T:=T,call:=fun _ _=>M.fail,own:=own,iso:=fun _=>false,nw:=fun _=>false,nt:=n,ann:=a }
def q4(n:Nat)(a:Ann):cS Tryz.prog (yU n a).own (yU n a).call:=fun f args h S β w vs hr=>absurd rfl hr
def xI(n:Nat)(a:Ann):IsoCall (yU n a):=⟨fun f args h=>Bool.noConfusion h,fun f args h=>Bool.noConfusion h⟩
def JU(e:AV)(es:List AV):cX (yU Tryz.f59.ntmps xy) (dc 0) Tryz.f59 (own 59) [.sl (e:: es)]=ae (af (dm T 35 (.sl []) (.sl (e:: es)))) fun v=>ae (af (some v)) M.pure:=by kernel_rfl
def JV:cX (yU Tryz.f59.ntmps xy) (dc 0) Tryz.f59 (own 59) [.hn]=ae (af (some (.sl []))) M.pure:=by kernel_rfl
def JW(l off:Nat):cX (yU Tryz.f59.ntmps xy) (dc 0) Tryz.f59 (own 59) [.hs l off 0 1 false]=ae (af (dm T 35 (.sl []) (.hs l off 0 1 false))) fun v=>ae (af (some v)) M.pure:=by kernel_rfl
def JX(l off:Nat):dm T 35 (.sl []) (.hs l off 0 1 false)=some (.sl []):=by rfl
def IF(call:FuncId->List AV->M AV)(args:List AV)(h:Hp)(S:aF)(β:List bO)(w:World)(vs:List Value)(hr:eQ T 35 call args h≠.fail)(hg:qK S β h w)(hw:Wf S w)(hh:de S β w h)(hv:bg S β args vs):
  Calls Tryz.prog 59 vs.toArray w (ee (own 59) S β h w (eQ T 35 call args h)):=by
 have key:∀es,args=[.sl es]->Calls Tryz.prog 59 vs.toArray w (ee (own 59) S β h w (eQ T 35 call args h)):=by
  rintro es rfl;exact (nB (cx:=yU Tryz.f59.ntmps xy) (E:=fun es h=>eQ T 35 call [.sl es] h) tok (q4 _ _) (xI _ _) Tryz.func59 rfl (fun h=>by rfl) (fun e es h=>by rw[JU];exact congrFun (Ao _) h) (fun h=>by rw[JV];rfl) (fun l off h=>by rw[JW,JX];rfl) hr hg hw hh hv).1
 unfold eQ at hr;split at hr
 ·exact key _ rfl
 ·exact absurd rfl hr
def JY(e:AV)(es:List AV):cX (yU Tryz.f82.ntmps xz) (dc 0) Tryz.f82 (some 3) [.sl (e:: es)]=ae (af (dm T 36 (.sl []) (.sl (e:: es)))) fun v=>ae (af (some v)) M.pure:=by kernel_rfl
def JZ:cX (yU Tryz.f82.ntmps xz) (dc 0) Tryz.f82 (some 3) [.hn]=ae (af (some (.sl []))) M.pure:=by kernel_rfl
def J0(l off:Nat):cX (yU Tryz.f82.ntmps xz) (dc 0) Tryz.f82 (some 3) [.hs l off 0 1 false]=ae (af (dm T 36 (.sl []) (.hs l off 0 1 false))) fun v=>ae (af (some v)) M.pure:=by kernel_rfl
def J1(l off:Nat):dm T 36 (.sl []) (.hs l off 0 1 false)=some (.sl []):=by rfl
def IH(call:FuncId->List AV->M AV)(args:List AV)(h:Hp)(S:aF)(β:List bO)(w:World)(vs:List Value)(hr:eQ T 36 call args h≠.fail)(hg:qK S β h w)(hw:Wf S w)(hh:de S β w h)(hv:bg S β args vs):
  Calls Tryz.prog 82 vs.toArray w (ee (some 3) S β h w (eQ T 36 call args h)):=by
 have key:∀es,args=[.sl es]->Calls Tryz.prog 82 vs.toArray w (ee (some 3) S β h w (eQ T 36 call args h)):=by
  rintro es rfl;exact (nB (cx:=yU Tryz.f82.ntmps xz) (own:=some 3) (E:=fun es h=>eQ T 36 call [.sl es] h) tok (q4 _ _) (xI _ _) Tryz.func82 rfl (fun h=>by rfl) (fun e es h=>by rw[JY];exact congrFun (Ao _) h) (fun h=>by rw[JZ];rfl) (fun l off h=>by rw[J0,J1];rfl) hr hg hw hh hv).1
 unfold eQ at hr;split at hr
 ·exact key _ rfl
 ·exact absurd rfl hr
end Go.Proofs.YtpmcemjkdkbicaaGreatDoor
