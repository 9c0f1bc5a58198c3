/- What the functions compute, part 1. Conditions: bounds. -/
import Derived.Ground.NamesProg
import Derived.Shelf.LaysM
import Derived.Shelf.Strconv.Itoa3
import Derived.Shelf.Strings.Search3
import Derived.Test.YtighgcgmocboaaaGreatDoorProg
import Derived.Test.YtighgcgmocboaaaGreatDoorLc
import Derived.Shelf.SlGeneric
import Derived.Ground.SlsfProg
import Derived.Shelf.Lays
import Derived.Shelf.LaysC
import Derived.Shelf.Strconv.AtoiAll
import Derived.Shelf.Small.Strs
import Derived.Lib.Builder
import Derived.Lib.UnsafeStr
import Derived.Shelf.RegionOpenPlain
import Derived.Laws.Externs
import Derived.Laws.IdiomCopy
import Derived.Laws.BitsLemmas
set_option linter.defProp false
set_option linter.unusedSimpArgs false
set_option linter.unusedVariables false
namespace Go.Proofs
open Go.Shelf
def MQ:Go.Shelf.Ren:=⟨fun|171=>69|243=>107|246=>139|283=>156|284=>157|285=>158|286=>159|129=>133|317=>173|318=>174|319=>175|320=>176|337=>181|338=>182|n=>n,fun|3=>3|9=>9|2=>2|4=>4|171=>161|0=>0|53=>141|37=>65|5=>5|173=>163|212=>178|51=>139|20=>20|213=>179|46=>116|232=>192|233=>193|n=>n,fun|17=>1|18=>4|19=>5|n=>n⟩
def MV:Go.Proofs.LaysM.n171 Tryz.prog MQ:={
 mixed:=by kernel_rfl
 f129:=Tryz.func133.trans (Nq some (by kernel_rfl))
 f171:=Tryz.func69.trans (Nq some (by kernel_rfl))
 f243:=Tryz.func107.trans (Nq some (by kernel_rfl))
 f246:=Tryz.func139.trans (Nq some (by kernel_rfl))
 f283:=Tryz.func156.trans (Nq some (by kernel_rfl))
 f284:=Tryz.func157.trans (Nq some (by kernel_rfl))
 f285:=Tryz.func158.trans (Nq some (by kernel_rfl))
 f286:=Tryz.func159.trans (Nq some (by kernel_rfl))
 f317:=Tryz.func173.trans (Nq some (by kernel_rfl))
 f318:=Tryz.func174.trans (Nq some (by kernel_rfl))
 f319:=Tryz.func175.trans (Nq some (by kernel_rfl))
 f320:=Tryz.func176.trans (Nq some (by kernel_rfl))
 f337:=Tryz.func181.trans (Nq some (by kernel_rfl))
 f338:=Tryz.func182.trans (Nq some (by kernel_rfl))
 t0:=Tryz.underlying0
 a0:=Tryz.isAgg0
 z0:=Tryz.sizeOf0
 v0:=Tryz.zeroValue0
 t2:=Tryz.underlying2
 a2:=Tryz.isAgg2
 z2:=Tryz.sizeOf2
 v2:=Tryz.zeroValue2
 t3:=Tryz.underlying3
 a3:=Tryz.isAgg3
 z3:=Tryz.sizeOf3
 v3:=Tryz.zeroValue3
 t4:=Tryz.underlying4
 a4:=Tryz.isAgg4
 z4:=Tryz.sizeOf4
 v4:=Tryz.zeroValue4
 t5:=Tryz.underlying5
 a5:=Tryz.isAgg5
 z5:=Tryz.sizeOf5
 v5:=Tryz.zeroValue5
 t9:=Tryz.underlying9
 a9:=Tryz.isAgg9
 z9:=Tryz.sizeOf9
 v9:=Tryz.zeroValue9
 t20:=Tryz.underlying20
 a20:=Tryz.isAgg20
 z20:=Tryz.sizeOf20
 v20:=Tryz.zeroValue20
 t37:=Tryz.underlying65
 a37:=Tryz.isAgg65
 z37:=Tryz.sizeOf65
 v37:=Tryz.zeroValue65
 t46:=Tryz.underlying116
 a46:=Tryz.isAgg116
 z46:=Tryz.sizeOf116
 v46:=Tryz.zeroValue116
 t51:=Tryz.underlying139
 a51:=Tryz.isAgg139
 z51:=Tryz.sizeOf139
 v51:=Tryz.zeroValue139
 t53:=Tryz.underlying141
 a53:=Tryz.isAgg141
 z53:=Tryz.sizeOf141
 v53:=Tryz.zeroValue141
 t171:=Tryz.underlying161
 a171:=Tryz.isAgg161
 z171:=Tryz.sizeOf161
 v171:=Tryz.zeroValue161
 t173:=Tryz.underlying163
 a173:=Tryz.isAgg163
 z173:=Tryz.sizeOf163
 v173:=Tryz.zeroValue163
 t212:=Tryz.underlying178
 a212:=Tryz.isAgg178
 z212:=Tryz.sizeOf178
 v212:=Tryz.zeroValue178
 t213:=Tryz.underlying179
 a213:=Tryz.isAgg179
 z213:=Tryz.sizeOf179
 t232:=Tryz.underlying192
 a232:=Tryz.isAgg192
 z232:=Tryz.sizeOf192
 v232:=Tryz.zeroValue192
 t233:=Tryz.underlying193
 a233:=Tryz.isAgg193
 z233:=Tryz.sizeOf193
 v233:=Tryz.zeroValue193
 g17:=by kernel_rfl
 g18:=by kernel_rfl
 g19:=by kernel_rfl
 i0:=by kernel_rfl
 i2:=by kernel_rfl
 i3:=by kernel_rfl
 i4:=by kernel_rfl
 i5:=by kernel_rfl
 i9:=by kernel_rfl
 i20:=by kernel_rfl
 i37:=by kernel_rfl
 i46:=by kernel_rfl
 i51:=by kernel_rfl
 i53:=by kernel_rfl
 i171:=by kernel_rfl
 i173:=by kernel_rfl
 i212:=by kernel_rfl
 i232:=by kernel_rfl
 i233:=by kernel_rfl
 m17:=by kernel_rfl
 m18:=by kernel_rfl
 m19:=by kernel_rfl }
def MR:Go.Shelf.Ren:=⟨fun|144=>81|143=>116|219=>145|217=>140|225=>167|224=>168|267=>169|266=>160|314=>180|n=>n,fun|9=>9|4=>4|3=>3|5=>5|46=>116|146=>186|51=>139|n=>n,fun|1=>0|n=>n⟩
def MW:Go.Proofs.Lays.n144 Tryz.prog MR:={
 mixed:=by kernel_rfl
 f143:=Tryz.func116.trans (Nq some (by kernel_rfl))
 f144:=Tryz.func81.trans (Nq some (by kernel_rfl))
 f217:=Tryz.func140.trans (Nq some (by kernel_rfl))
 f219:=Tryz.func145.trans (Nq some (by kernel_rfl))
 f224:=Tryz.func168.trans (Nq some (by kernel_rfl))
 f225:=Tryz.func167.trans (Nq some (by kernel_rfl))
 f266:=Tryz.func160.trans (Nq some (by kernel_rfl))
 f267:=Tryz.func169.trans (Nq some (by kernel_rfl))
 f314:=Tryz.func180.trans (Nq some (by kernel_rfl))
 t3:=Tryz.underlying3
 a3:=Tryz.isAgg3
 z3:=Tryz.sizeOf3
 v3:=Tryz.zeroValue3
 t4:=Tryz.underlying4
 a4:=Tryz.isAgg4
 z4:=Tryz.sizeOf4
 v4:=Tryz.zeroValue4
 t5:=Tryz.underlying5
 a5:=Tryz.isAgg5
 z5:=Tryz.sizeOf5
 v5:=Tryz.zeroValue5
 t9:=Tryz.underlying9
 a9:=Tryz.isAgg9
 z9:=Tryz.sizeOf9
 v9:=Tryz.zeroValue9
 t46:=Tryz.underlying116
 a46:=Tryz.isAgg116
 z46:=Tryz.sizeOf116
 v46:=Tryz.zeroValue116
 t51:=Tryz.underlying139
 a51:=Tryz.isAgg139
 z51:=Tryz.sizeOf139
 v51:=Tryz.zeroValue139
 t146:=Tryz.underlying186
 a146:=Tryz.isAgg186
 z146:=Tryz.sizeOf186
 v146:=Tryz.zeroValue186
 g1:=by kernel_rfl }
end Go.Proofs
namespace Go.Proofs.YtighgcgmocboaaaGreatDoor
open Go Go.Av Go.Av.Ap
abbrev CC:=FuncId->List AV->M AV
abbrev RR:=List AV->M AV
def lb{α β:Type}{m:M α}{f:α->M β}{fs:Nat->α->M β}(hf:bR f fs):cQ (ap m f) fun n=>ap m (fs n):=cQ.bnd (eC _) hf
abbrev vN(l:List Nat):List (Nat×Option Nat):=l.map fun x=>(x,none)
abbrev tF:TI:=TI.mk false 1 8 .func [] [.nilf] false
@[simp] def tE:Nat->List Nat->List (Nat×(Nat×Bool))
 |_,[]=>[]
 |i,x::l=>(i,(x,true))::tE (i+1) l
@[simp] abbrev tS(c s:Nat)(f:List Nat)(z:List AV)(b:Bool):TI:=TI.mk true c s .struct (tE 0 f) z b
noncomputable def tab:List (Nat×TI):=[
(0,(TI.mk false 1 0 .other [] [.any] false)),
(1,tF),
(2,(TI.mk false 1 8 (.int .i64) [] [.int .i64 0] false)),
(3,(TI.mk false 1 8 (.int .i64) [] [.int .i64 0] false)),
(4,(TI.mk false 1 1 .bool [] [.bool false] false)),
(5,(TI.mk false 1 1 (.int .u8) [] [.int .u8 0] false)),
(6,(TI.mk false 1 1 (.int .u8) [] [.int .u8 0] false)),
(7,(tS 4 24 [2,3,4,6] [.int .i64 0,.int .i64 0,.bool false,.int .u8 0] true)),
(8,(tS 4 24 [2,3,4,6] [.int .i64 0,.int .i64 0,.bool false,.int .u8 0] true)),
(9,(TI.mk false 1 16 .str [] [.str []] false)),
(10,(TI.mk false 1 16 .str [] [.str []] false)),
(11,(TI.mk false 1 16 .str [] [.str []] false)),
(12,(TI.mk false 1 8 (.int .u64) [] [.int .u64 0] false)),
(13,(tS 2 24 [9,12] [.str [],.int .u64 0] false)),
(14,(tS 2 24 [9,12] [.str [],.int .u64 0] false)),
(15,(TI.mk false 1 8 .ptr [] [.nilp] false)),
(16,(TI.mk false 1 8 .ptr [] [.nilp] false)),
(17,(TI.mk false 1 8 .ptr [] [.nilp] false)),
(18,(tS 1 8 [17] [.nilp] false)),
(19,(tS 1 8 [17] [.nilp] false)),
(20,(TI.mk false 1 16 .iface [] [.nili] false)),
(21,(TI.mk false 1 4 (.int .i32) [] [.int .i32 0] false)),
(22,(TI.mk false 1 24 (.slice 9) [] [.sl []] false)),
(23,(TI.mk false 1 24 (.slice 54) [] [.sl []] false)),
(24,(TI.mk false 1 24 (.slice 56) [] [.sl []] false)),
(25,(TI.mk false 1 24 (.slice 58) [] [.sl []] false)),
(26,(tS 3 72 [23,24,24] [.sl [],.sl [],.sl []] true)),
(27,(tS 3 72 [23,24,24] [.sl [],.sl [],.sl []] true)),
(28,(tS 9 192 [9,22,23,24,25,4,27] [.str [],.sl [],.sl [],.sl [],.sl [],.bool false,.sl [],.sl [],.sl []] true)),
(29,(tS 9 192 [9,22,23,24,25,4,27] [.str [],.sl [],.sl [],.sl [],.sl [],.bool false,.sl [],.sl [],.sl []] true)),
(30,(TI.mk false 1 24 (.slice 37) [] [.sl []] false)),
(31,(tS 2 40 [9,30] [.str [],.sl []] true)),
(32,(tS 2 40 [9,30] [.str [],.sl []] true)),
(33,(TI.mk false 1 24 (.slice 35) [] [.sl []] false)),
(34,(tS 2 32 [3,23] [.int .i64 0,.sl []] true)),
(35,(tS 2 32 [3,23] [.int .i64 0,.sl []] true)),
(36,(TI.mk true 5 80 .struct [(0,((9,true))),(1,((33,true))),(2,((35,true))),(4,((3,true)))] [.str [],.sl [],.int .i64 0,.sl [],.int .i64 0] true)),
(37,(TI.mk true 5 80 .struct [(0,((9,true))),(1,((33,true))),(2,((35,true))),(4,((3,true)))] [.str [],.sl [],.int .i64 0,.sl [],.int .i64 0] true)),
(38,tF),
(39,tF),
(40,tF),
(41,tF),
(42,(TI.mk false 1 8 (.int .i64) [] [.int .i64 0] false)),
(43,(TI.mk false 1 0 .other [] [.any] false)),
(44,tF),
(45,(TI.mk false 1 0 .other [] [.any] false)),
(46,tF),
(47,(TI.mk false 1 0 .other [] [.any] false)),
(48,tF),
(49,tF),
(50,tF),
(51,tF),
(52,tF),
(53,(tS 3 48 [9,35] [.str [],.int .i64 0,.sl []] true)),
(54,(tS 3 48 [9,35] [.str [],.int .i64 0,.sl []] true)),
(55,(tS 6 96 [3,3,9,9,22,24] [.int .i64 0,.int .i64 0,.str [],.str [],.sl [],.sl []] true)),
(56,(tS 6 96 [3,3,9,9,22,24] [.int .i64 0,.int .i64 0,.str [],.str [],.sl [],.sl []] true)),
(57,(TI.mk true 12 184 .struct [(0,((9,true))),(1,((4,true))),(2,((23,true))),(3,((35,true))),(5,((3,true))),(6,((56,true)))] [.str [],.bool false,.sl [],.int .i64 0,.sl [],.int .i64 0,.int .i64 0,.int .i64 0,.str [],.str [],.sl [],.sl []] true)),
(58,(TI.mk true 12 184 .struct [(0,((9,true))),(1,((4,true))),(2,((23,true))),(3,((35,true))),(5,((3,true))),(6,((56,true)))] [.str [],.bool false,.sl [],.int .i64 0,.sl [],.int .i64 0,.int .i64 0,.int .i64 0,.str [],.str [],.sl [],.sl []] true)),
(59,tF),
(60,tF),
(61,tF),
(62,tF),
(63,tF),
(64,(TI.mk false 1 8 .ptr [] [.nilp] false)),
(65,(TI.mk false 1 24 (.slice 5) [] [.sl []] false)),
(66,(tS 2 32 [64,65] [.nilp,.sl []] true)),
(67,(tS 2 32 [64,65] [.nilp,.sl []] true)),
(68,(TI.mk false 1 16 .iface [] [.nili] false)),
(69,(TI.mk false 1 16 .iface [] [.nili] false)),
(70,(TI.mk false 1 0 .other [] [.any] false)),
(71,tF),
(72,tF),
(73,tF),
(74,tF),
(75,tF),
(76,tF),
(77,(TI.mk false 1 8 .ptr [] [.nilp] false)),
(78,tF),
(79,tF),
(80,tF),
(81,(TI.mk false 1 8 .ptr [] [.nilp] false)),
(82,tF),
(83,tF),
(84,tF),
(85,tF),
(86,tF),
(87,tF),
(88,tF),
(89,tF),
(90,tF),
(91,tF),
(92,tF),
(93,tF),
(94,tF),
(95,tF),
(96,(TI.mk false 1 8 .ptr [] [.nilp] false)),
(97,(tS 2 24 [9,4] [.str [],.bool false] true)),
(98,(tS 2 24 [9,4] [.str [],.bool false] true)),
(99,tF),
(100,tF),
(101,(tS 2 24 [9,4] [.str [],.bool false] true)),
(102,(tS 2 24 [9,4] [.str [],.bool false] true)),
(103,tF),
(104,tF),
(105,tF),
(106,tF),
(107,tF),
(108,tF),
(109,tF),
(110,tF),
(111,(TI.mk false 1 8 (.map 9 4) [] [.nilm] false)),
(112,tF),
(113,tF),
(114,tF),
(115,tF),
(116,(TI.mk false 1 8 (.int .u64) [] [.int .u64 0] false)),
(117,tF),
(118,tF),
(119,tF),
(120,tF),
(121,(TI.mk false 1 8 .other [] [.nilp] false)),
(122,tF),
(123,tF),
(124,(TI.mk false 1 0 .other [] [.any] false)),
(125,tF),
(126,tF),
(127,tF),
(128,tF),
(129,tF),
(130,tF),
(131,(TI.mk false 1 8 (.int .i64) [] [.int .i64 0] false)),
(132,(TI.mk false 1 0 .other [] [.any] false)),
(133,tF),
(134,tF),
(135,tF),
(136,(TI.mk false 1 0 .other [] [.any] false)),
(137,tF),
(138,tF),
(139,(TI.mk false 1 4 (.int .u32) [] [.int .u32 0] false)),
(140,tF),
(141,(TI.mk false 1 8 (.int .u64) [] [.int .u64 0] false)),
(142,tF),
(143,(TI.mk false 1 0 .other [] [.any] false)),
(144,tF),
(145,tF),
(146,tF),
(147,tF),
(148,tF),
(149,(TI.mk false 1 0 .other [] [.any] false)),
(150,tF),
(151,(TI.mk false 1 8 (.int .u64) [] [.int .u64 0] false)),
(152,tF),
(153,tF),
(154,tF),
(155,(TI.mk false 1 8 .ptr [] [.nilp] false)),
(156,tF),
(157,tF),
(158,tF),
(159,tF),
(160,tF),
(161,(TI.mk true 24 24 (.array 24 5) [] (List.replicate 24 (.int .u8 0)) false)),
(162,tF),
(163,(TI.mk false 1 0 .other [] [.any] false)),
(164,tF),
(165,(TI.mk false 1 8 (.int .i64) [] [.int .i64 0] false)),
(166,(TI.mk false 1 0 .other [] [.any] false)),
(167,tF),
(168,(TI.mk false 1 8 .ptr [] [.nilp] false)),
(169,tF),
(170,tF),
(171,tF),
(172,(TI.mk false 1 8 .ptr [] [.nilp] false)),
(173,(TI.mk false 1 0 .other [] [.any] false)),
(174,tF),
(175,tF),
(176,tF),
(177,tF),
(178,(TI.mk true 20 160 (.array 20 141) [] (List.replicate 20 (.int .u64 0)) false)),
(179,(TI.mk true 65 65 (.array 65 5) [] (List.replicate 65 (.int .u8 0)) false)),
(180,tF),
(181,(TI.mk false 1 0 .other [] [.any] false)),
(182,tF),
(183,(tS 3 48 [9,9,69] [.str [],.str [],.nili] false)),
(184,(tS 3 48 [9,9,69] [.str [],.str [],.nili] false)),
(185,tF),
(186,(TI.mk false 1 0 .other [] [.any] false)),
(187,tF),
(188,tF),
(189,(TI.mk false 1 8 .ptr [] [.nilp] false)),
(190,(tS 1 16 [9] [.str []] true)),
(191,(tS 1 16 [9] [.str []] true)),
(192,(TI.mk true 32 32 (.array 32 5) [] (List.replicate 32 (.int .u8 0)) false)),
(193,(TI.mk true 64 64 (.array 64 5) [] (List.replicate 64 (.int .u8 0)) false)),
(194,(tS 4 40 [17,17,17,9] [.nilp,.nilp,.nilp,.str []] false)),
(195,(tS 4 40 [17,17,17,9] [.nilp,.nilp,.nilp,.str []] false)),
(196,(TI.mk true 0 0 (.array 0 16) [] [] false)),
(197,(TI.mk true 0 0 .struct [(0,((196,false)))] [] false)),
(198,(TI.mk true 0 0 .struct [(0,((196,false)))] [] false)),
(199,(TI.mk false 1 1 (.int .u8) [] [.int .u8 0] false)),
(200,(TI.mk false 1 1 (.int .u8) [] [.int .u8 0] false)),
(201,tF),
(202,(TI.mk false 1 4 (.int .i32) [] [.int .i32 0] false)),
(203,(TI.mk false 1 4 (.int .i32) [] [.int .i32 0] false)),
(204,(tS 11 48 [12,12,139,199,5,5,200,201,96,202,203] [.int .u64 0,.int .u64 0,.int .u32 0,.int .u8 0,.int .u8 0,.int .u8 0,.int .u8 0,.nilf,.nilp,.int .i32 0,.int .i32 0] false)),
(205,(tS 11 48 [12,12,139,199,5,5,200,201,96,202,203] [.int .u64 0,.int .u64 0,.int .u32 0,.int .u8 0,.int .u8 0,.int .u8 0,.int .u8 0,.nilf,.nilp,.int .i32 0,.int .i32 0] false))]
def yV:List (Nat×TI)->Nat->Option TI
 |[],_=>none
 |(k,x):: r,t=>bif Nat.beq k t then some x else yV r t
noncomputable def T:TT:=yV tab
def Lj:Ann:={kinds:=[(18,.S),(20,.S),(22,.S),(24,.S)],nl:=[27,31,36,41,57,62,77,83,97,98,108,109,119,121,127,129,134,135,137,138,143,144,146,147,152,153],lw:=[18,20,22,24]}
def Gf:Ann:={kinds:=[(1,.S),(2,.S),(5,.S),(7,.S),(9,.S),(11,.S),(12,.S),(13,.S)],no:=[16,21,44,46,48,50],nl:=[23,26,35,40,64,65,69,81,86,87,91,92,97,104],lw:=[1,2,5,7,9,11,12,13]}
def Lk:Ann:={nl:=[6,16,20,25,29,35,39,44,49,55,60,66,72,78],loops:=[(0,{vals:=vN [1,3]})]}
def Ll:Ann:={nl:=[6,16,19,23],loops:=[(0,{vals:=vN [1,3]})]}
def Lm:Ann:={nl:=[6,16,19,23,28],loops:=[(0,{vals:=vN [1,3]})]}
def Ln:Ann:={kinds:=[(4,.B),(6,.S),(8,.S)],nl:=[9,13,16,22,27,29,32,38,43,44,48,51],lw:=[6,8],loops:=[(0,{vals:=vN [4,22,23,24]}),(2,{vals:=vN [4,6,22,23,24,38,39,40]})]}
def Lo:Ann:={kinds:=[(6,.S)],nl:=[8,12,15,21,27,30,33,37,43,50,53,58,62],lw:=[6],loops:=[(0,{vals:=vN [1,4,5]}),(2,{vals:=vN [1,4,5,6,7]})]}
def Ih:Ann:={hb:=[5,7,15,36],no:=[59,71],lw:=[2,5,7,61,64,67,73],loops:=[(0,{vals:=[(0,none),(4,none),(6,none),(3000,none),(3001,none),(6000,none),(6001,some 5)],locs:=[(2,3000,0),(5,6000,0)],lbs:=[(3000,2),(6000,2)]}),(2,{vals:=[(0,none),(4,none),(6,none),(8,none),(3000,none),(3001,none),(6000,none),(6001,some 5),(8000,none),(8001,some 2),(8002,none),(8003,none),(8004,none)],locs:=[(2,3000,0),(5,6000,0),(7,8000,0)],lbs:=[(3000,2),(6000,2),(8000,5)]})],nils:=[(5,[1]),(7,[1])]}
def Ii:Ann:={hb:=[5,8,17,36],no:=[57,69],lw:=[2,5,8,59,62,65,71],loops:=[(0,{vals:=[(0,none),(4,none),(6,none),(7,none),(3000,none),(3001,none),(6000,none),(6001,some 5)],locs:=[(2,3000,0),(5,6000,0)],lbs:=[(3000,2),(6000,2)]}),(2,{vals:=[(0,none),(4,none),(6,none),(7,none),(9,none),(10,none),(3000,none),(3001,none),(6000,none),(6001,some 5),(9000,none),(9001,some 2),(9002,none),(9003,none),(9004,none)],locs:=[(2,3000,0),(5,6000,0),(8,9000,0)],lbs:=[(3000,2),(6000,2),(9000,5)]})],nils:=[(5,[1]),(8,[1])]}
def Ij:Ann:={kinds:=[(9,.S)],hl:=[37],nl:=[11,18,21,37,41],lw:=[4,7,9,28,29],loops:=[(0,{vals:=vN [31,32,33,5000,5001,5002,5003,5004,8000,8001,8002,8003,8004],locs:=[(4,5000,0),(7,8000,0)],lbs:=[(5000,5),(8000,5)]})],ords:=[(5,[0,1,3,4,2,6,5,7,8,9])]}
def Ik:Ann:={nl:=[9,15,19,23,26],lw:=[4],loops:=[(0,{vals:=vN [1,2,6,5000,5001,5002,5003,5004],locs:=[(4,5000,0)],lbs:=[(5000,5)]})]}
def Il:Ann:={nl:=[7,9,13,16,22,28,31,33,36],loops:=[(0,{vals:=vN [2,3,5]})]}
def Im:Ann:={nl:=[7,9,13,15,20,23,29,31,37,43,46,48,51],loops:=[(0,{vals:=vN [2,3,5]})]}
def Io:Ann:={kinds:=[(4,.S)],nl:=[6,11,16,22,23,31,36,38],lw:=[4],loops:=[(0,{vals:=vN [1,16,17,18]})]}
def Ip:Ann:={kinds:=[(4,.S)],nl:=[7,12,18,24,27,29,37,42,44,50,56,61,66,72,78,81],lw:=[4],loops:=[(0,{vals:=vN [1,3]}),(2,{vals:=vN [1,3,4,5]})]}
def Iq:Ann:={kinds:=[(5,.S),(8,.S)],ha:=[54],hb:=[6,15,33],no:=[46,53],nl:=[9,14,17,22,24,27,29,32,35,40,44],lw:=[2,3,5,6,8,48,55],loops:=[(0,{vals:=vN [17,18,19,3000,3001,4000,4001],locs:=[(2,3000,0),(3,4000,0)],lbs:=[(3000,2),(4000,2)]}),(2,{vals:=[(17,none),(18,none),(19,none),(35,none),(36,none),(37,none),(3000,none),(3001,none),(4000,none),(4001,none),(7000,none),(7001,some 2),(7002,none),(7003,none),(7004,none)],locs:=[(2,3000,0),(3,4000,0),(6,7000,0)],lbs:=[(3000,2),(4000,2),(7000,5)]})],ords:=[(8,[0,1,2,3,5,6,8,4,7,9])],nils:=[(6,[1])]}
def Ir:Ann:={kinds:=[(5,.S)],hl:=[74,87],ha:=[63],hb:=[6,15,37],no:=[53,62],nl:=[9,14,18,24,27,29,32,34,36,40,48,52,74,87],lw:=[2,3,5,6,55,64],joins:=[(1000001,{vals:=vN [1,4,3000,3001,4000,4001],locs:=[(2,3000,0),(3,4000,0)],lbs:=[(3000,2),(4000,2)]})],loops:=[(0,{vals:=vN [1,4,3000,3001,4000,4001],locs:=[(2,3000,0),(3,4000,0)],lbs:=[(3000,2),(4000,2)]}),(2,{vals:=[(1,none),(4,none),(5,none),(7,none),(3000,none),(3001,none),(4000,none),(4001,none),(7000,none),(7001,some 2),(7002,none),(7003,none),(7004,none)],locs:=[(2,3000,0),(3,4000,0),(6,7000,0)],lbs:=[(3000,2),(4000,2),(7000,5)]}),(4,{vals:=[(1,none),(4,none),(8,none),(3000,none),(3001,none),(4000,none),(4001,none),(7000,none),(7001,some 2),(7002,none),(7003,none),(7004,none)],locs:=[(2,3000,0),(3,4000,0),(6,7000,0)],lbs:=[(3000,2),(4000,2),(7000,5)]})],nils:=[(6,[1])]}
def Is:Ann:={nl:=[6,8,12,14,19,21]}
def It:Ann:={nl:=[7,10,15,17,23,25,28,33,39,42,44,47],loops:=[(0,{vals:=vN [2,3,5]})]}
def Iu:Ann:={nl:=[6,8,12,14]}
def Iv:Ann:={hb:=[3,5],no:=[19],nl:=[17],lw:=[2,3,21],loops:=[(0,{vals:=[(0,none),(4,none),(3000,none),(3001,none),(4000,none),(4001,some 3)],locs:=[(2,3000,0),(3,4000,0)],lbs:=[(3000,2),(4000,2)]})],nils:=[(3,[1])]}
def Iw:Ann:={nl:=[18],loops:=[(0,{vals:=vN [0,3]})]}
def Ix:Ann:={nl:=[3]}
def Iy:Ann:={nl:=[3]}
def Iz:Ann:={nl:=[17],loops:=[(0,{vals:=vN [0,3]})]}
def IA:Ann:={iso:=false,hl:=[12],ha:=[14],hb:=[14],nl:=[12]}
def IB:Ann:={}
def IC:Ann:={}
def ID:Ann:={iso:=false,kinds:=[(5,.S)],nl:=[8,12,16,21,26,29,34],lw:=[5],loops:=[(0,{vals:=vN [0,21,22,23]})]}
def IE:Ann:={}
def IF:Ann:={}
def IG:Ann:={nl:=[6,9,14,20,27,31,35,39],loops:=[(0,{vals:=vN [1,3,4]})]}
def IH:Ann:={iso:=false,kinds:=[(5,.H)],hb:=[4]}
def II:Ann:={iso:=false,hl:=[11,19,26,36],nl:=[11,19,26,36]}
def IJ:Ann:={iso:=false}
def IK:Ann:={iso:=false,hl:=[6],nl:=[6]}
def IL:Ann:={iso:=false,hb:=[5,10],no:=[48],lw:=[4,5,7,44,50],loops:=[(0,{vals:=[(0,none),(1,none),(6,none),(5000,none),(5001,none),(6000,none),(6001,some 3)],locs:=[(4,5000,0),(5,6000,0)],lbs:=[(5000,2),(6000,2)]})],nils:=[(5,[1])]}
def IM:Ann:={iso:=false,kinds:=[(5,.H)],hb:=[4]}
def IP:Ann:={iso:=false,hl:=[10,16,25,32],nl:=[10,16,25,32]}
def IQ:Ann:={iso:=false}
def IR:Ann:={iso:=false,hl:=[6],nl:=[6]}
def IU:Ann:={iso:=false,kinds:=[(9,.S)],hb:=[5,12],no:=[48],nl:=[46],lw:=[4,5,9,50],loops:=[(0,{vals:=[(0,none),(1,none),(6,none),(7,none),(5000,none),(5001,none),(6000,none),(6001,some 3)],locs:=[(4,5000,0),(5,6000,0)],lbs:=[(5000,2),(6000,2)]})],nils:=[(5,[1])]}
def IV:Ann:={nl:=[15],loops:=[(0,{vals:=vN [0,1,7,8]})]}
def IW:Ann:={nl:=[5,6]}
def yK:Ann:={iso:=false,ha:=[7]}
def Bi:Ann:={kinds:=[(1,.L),(4,.S)],nl:=[16,21],lw:=[2,4,8],loops:=[(0,{vals:=vN [10,11,12,2000,2001,3000,3001],locs:=[(1,2000,0),(2,3000,0)],lbs:=[(2000,2),(3000,2)]})]}
def IX:Ann:={nl:=[7,9,13,16,22,28,32,34,38,42,46,48,52],loops:=[(0,{vals:=vN [2,3,5]})]}
def IY:Ann:={}
def IZ:Ann:={nl:=[4,9,15,21,26]}
def I0:Ann:={}
def I1:Ann:={nl:=[3]}
def I2:Ann:={kinds:=[(8,.S)],nl:=[13,18,32,37,40,44,50,56,62,68,74,77,82,88,94,100,102,109,112,115,121,126,133],lw:=[8],joins:=[(116,{vals:=vN [1,9,10]})],loops:=[(0,{vals:=vN [1,3,13,14,15]}),(2,{vals:=vN [1,6,32,33,34]})]}
def E8:Ann:={nl:=[6,8]}
def E9:Ann:={}
def I3:Ann:={kinds:=[(5,.S)],no:=[64],nl:=[7,12,18,24,30,33,39,45,51,57,60,63,67,72,78,84,92,96,100,105,111,116,119,126,130,137,143],lw:=[5],loops:=[(0,{vals:=[(1,none),(3,some 1),(4,none)]})]}
def I4:Ann:={kinds:=[(8,.S),(9,.S)],nl:=[21,25,27,28],lw:=[8,9],loops:=[(0,{vals:=vN [1,2,15,16,17]})]}
def I5:Ann:={nl:=[5,8,12,13]}
def I6:Ann:={nl:=[5,8,12,13]}
def I7:Ann:={kinds:=[(8,.S),(9,.S)],nl:=[21,25,27,28],lw:=[8,9],loops:=[(0,{vals:=vN [1,2,15,16,17]})]}
def I8:Ann:={nl:=[6,8,12,14,19,21,26,28]}
def I9:Ann:={nl:=[6,8,12,14]}
def Ja:Ann:={nl:=[15,27,31],loops:=[(0,{vals:=vN [1,2,3,7,8]})]}
def Jb:Ann:={nl:=[13,21,33,36],loops:=[(0,{vals:=vN [1,2,3,7,8]})]}
def Jc:Ann:={}
def Jd:Ann:={}
def Je:Ann:={iso:=false,hl:=[14,18,57],nl:=[14,18,57],ords:=[(7,[0,1,2,3,5,6,7,4,8,9,10,11,12,13,14])]}
def Jf:Ann:={iso:=false}
def Jg:Ann:={iso:=false,hl:=[10],nl:=[10]}
def Jh:Ann:={iso:=false}
def Ji:Ann:={iso:=false}
def Jj:Ann:={iso:=false,hl:=[8,16,26],nl:=[8,16,26]}
def Jk:Ann:={}
def Jl:Ann:={nl:=[3]}
def Jm:Ann:={}
def Jn:Ann:={nl:=[3]}
def Jo:Ann:={loops:=[(0,{vals:=vN [0,3]})]}
def Jp:Ann:={nl:=[15],loops:=[(0,{vals:=vN [0,1,5]})]}
def Jq:Ann:={no:=[1]}
def Jr:Ann:={nl:=[10,16,20,27,33,40,46,50],loops:=[(0,{vals:=vN [1,2,5]})]}
def Js:Ann:={kinds:=[(7,.S)],nl:=[14,17,21,27,33],lw:=[7],loops:=[(0,{vals:=vN [0,1,5,9,10,11]})]}
def Jt:Ann:={nl:=[3]}
def Ju:Ann:={kinds:=[(6,.S)],nl:=[12,13],lw:=[6],loops:=[(0,{vals:=vN [0,1,7,8,9]})]}
def Fa:Ann:={}
def Jv:Ann:={nl:=[13,23],loops:=[(0,{vals:=vN [0,3]})]}
def Jw:Ann:={nl:=[16],loops:=[(0,{vals:=vN [0,1,5]})]}
def Jy:Ann:={nl:=[13],loops:=[(0,{vals:=vN [0,3]})]}
def Jz:Ann:={}
def JB:Ann:={nl:=[3]}
def FE:Ann:={nl:=[3]}
def FF:Ann:={nl:=[6,8,12]}
def FG:Ann:={nl:=[3]}
def FH:Ann:={kinds:=[(6,.S)],nl:=[10,12,16,23,25,29,35,37,41],lw:=[6],loops:=[(0,{vals:=vN [2,3,5]})]}
def FI:Ann:={kinds:=[(8,.S),(9,.S)],nl:=[21,25,27,28],lw:=[8,9],loops:=[(0,{vals:=vN [1,2,15,16,17]})]}
def FJ:Ann:={nl:=[6,8,12,14]}
def FK:Ann:={}
def FL:Ann:={iso:=false,hl:=[12,23,35,43,54,68],nl:=[12,23,35,43,54,68],loops:=[(0,{vals:=vN [0,1,5]})]}
def FM:Ann:={}
def FN:Ann:={loops:=[(0,{vals:=vN [0,1,5]})]}
def FO:Ann:={}
def FP:Ann:={}
def FQ:Ann:={kinds:=[(6,.S)],nl:=[11,16,21,27,31,37,43,45,53,55,60,66],lw:=[6],loops:=[(0,{vals:=vN [1,2,37,38,39]})]}
def FS:Ann:={nl:=[15],loops:=[(0,{vals:=vN [0,1,7,8]})]}
def FT:Ann:={}
def FU:Ann:={}
def FV:Ann:={nl:=[13,24,28],loops:=[(0,{vals:=vN [0,3]})]}
def FX:Ann:={no:=[17],nl:=[16],loops:=[(0,{vals:=[(0,none),(3,some 1),(4,none)]})]}
def FY:Ann:={kinds:=[(5,.S),(8,.S)],nl:=[13,18,22,31,37,39,44,46,51,53,58,61,66,71,76,77],lw:=[5,8],loops:=[(0,{vals:=vN [1,71,72,73]})]}
def FZ:Ann:={nl:=[9,15,21,24],loops:=[(0,{vals:=vN [1,2,5]})]}
def F0:Ann:={}
def F5:Ann:={kinds:=[(4,.S)],nl:=[8,10,17,19],lw:=[4]}
def F6:Ann:={nl:=[18,25],lw:=[4],loops:=[(0,{vals:=vN [0,1,6,5000,5001],locs:=[(4,5000,0)],lbs:=[(5000,2)]})]}
def F7:Ann:={}
def F8:Ann:={joins:=[(14,{vals:=vN [0,4]}),(45,{vals:=vN [0,5]})],loops:=[(0,{vals:=vN [0,4,5,6]})]}
def F9:Ann:={nl:=[6,8,11,16,23,30,36,45,54,58,63,65],lw:=[2,4,17,24,31,37,46,55,66,67],joins:=[(12,{vals:=vN [1,11,12,3000,3001,3002,3003,3004,3005,5000,5001,5002,5003,5004,5005],locs:=[(2,3000,0),(4,5000,0)],lbs:=[(3000,6),(5000,6)]}),(19,{vals:=vN [1,11,19,3000,3001,3002,3003,3004,3005,5000,5001,5002,5003,5004,5005],locs:=[(2,3000,0),(4,5000,0)],lbs:=[(3000,6),(5000,6)]}),(26,{vals:=vN [1,11,26,3000,3001,3002,3003,3004,3005,5000,5001,5002,5003,5004,5005],locs:=[(2,3000,0),(4,5000,0)],lbs:=[(3000,6),(5000,6)]})]}
def Ga:Ann:={nl:=[6,10,14,20,24,30,34,39,44,54,59,63,67,73,80,86,96,100,106],joins:=[(47,{vals:=vN [1,6,47]})],loops:=[(1,{vals:=vN [1,80,81,82]})]}
def Gb:Ann:={nl:=[5,8,11,19,24,32,38,46,52,60,65,73,78,86,94,99,109,114,122,127,131,137,145,149,154,159,171],joins:=[(35,{vals:=vN [1,3,8,35]}),(49,{vals:=vN [1,3,8,49]}),(163,{vals:=vN [1,3,163]})]}
def Gc:Ann:={nl:=[15],loops:=[(0,{vals:=vN [0,1,7,8]})]}
def Gd:Ann:={}
def Ge:Ann:={nl:=[14,21,29,37]}
noncomputable def nK:List (Nat×(Func×Ann)):=[
(3,(Tryz.f3,Lj)),
(4,(Tryz.f4,Gf)),
(5,(Tryz.f5,Lk)),
(6,(Tryz.f6,Ll)),
(7,(Tryz.f7,Lm)),
(8,(Tryz.f8,Ln)),
(9,(Tryz.f9,Lo)),
(10,(Tryz.f10,Ih)),
(11,(Tryz.f11,Ii)),
(12,(Tryz.f12,Ij)),
(13,(Tryz.f13,Ik)),
(14,(Tryz.f14,Il)),
(15,(Tryz.f15,Im)),
(16,(Tryz.f16,Io)),
(17,(Tryz.f17,Ip)),
(18,(Tryz.f18,Iq)),
(19,(Tryz.f19,Ir)),
(20,(Tryz.f20,Is)),
(21,(Tryz.f21,It)),
(22,(Tryz.f22,Iu)),
(23,(Tryz.f23,Iv)),
(24,(Tryz.f24,Iw)),
(25,(Tryz.f25,Ix)),
(26,(Tryz.f26,Iy)),
(27,(Tryz.f27,Iz)),
(28,(Tryz.f28,IA)),
(29,(Tryz.f29,IB)),
(30,(Tryz.f30,IC)),
(31,(Tryz.f31,ID)),
(33,(Tryz.f33,IE)),
(34,(Tryz.f34,IF)),
(35,(Tryz.f35,IG)),
(36,(Tryz.f36,IH)),
(37,(Tryz.f37,II)),
(38,(Tryz.f38,IJ)),
(39,(Tryz.f39,IK)),
(40,(Tryz.f40,IL)),
(41,(Tryz.f41,IM)),
(42,(Tryz.f42,IP)),
(43,(Tryz.f43,IQ)),
(44,(Tryz.f44,IR)),
(45,(Tryz.f45,IU)),
(46,(Tryz.f46,IV)),
(47,(Tryz.f47,IW)),
(50,(Tryz.f50,IX)),
(51,(Tryz.f51,IY)),
(52,(Tryz.f52,IZ)),
(53,(Tryz.f53,I0)),
(54,(Tryz.f54,I1)),
(55,(Tryz.f55,I2)),
(57,(Tryz.f57,E8)),
(58,(Tryz.f58,E9)),
(59,(Tryz.f59,I3)),
(60,(Tryz.f60,I4)),
(61,(Tryz.f61,I5)),
(62,(Tryz.f62,I6)),
(63,(Tryz.f63,I7)),
(64,(Tryz.f64,I8)),
(65,(Tryz.f65,I9)),
(66,(Tryz.f66,Ja)),
(67,(Tryz.f67,Jb)),
(70,(Tryz.f70,Jc)),
(72,(Tryz.f72,Jd)),
(73,(Tryz.f73,Je)),
(74,(Tryz.f74,Jf)),
(75,(Tryz.f75,Jg)),
(76,(Tryz.f76,Jh)),
(77,(Tryz.f77,Ji)),
(78,(Tryz.f78,Jj)),
(80,(Tryz.f80,Jk)),
(82,(Tryz.f82,Jl)),
(83,(Tryz.f83,Jm)),
(84,(Tryz.f84,Jn)),
(85,(Tryz.f85,Jo)),
(86,(Tryz.f86,Jp)),
(87,(Tryz.f87,Jq)),
(88,(Tryz.f88,Jr)),
(89,(Tryz.f89,Js)),
(90,(Tryz.f90,Jt)),
(91,(Tryz.f91,Ju)),
(94,(Tryz.f94,Fa)),
(95,(Tryz.f95,Jv)),
(96,(Tryz.f96,Jw)),
(97,(Tryz.f97,Jy)),
(98,(Tryz.f98,Jz)),
(99,(Tryz.f99,JB)),
(100,(Tryz.f100,FE)),
(101,(Tryz.f101,FF)),
(102,(Tryz.f102,FG)),
(103,(Tryz.f103,FH)),
(104,(Tryz.f104,FI)),
(105,(Tryz.f105,FJ)),
(110,(Tryz.f110,FK)),
(111,(Tryz.f111,FL)),
(112,(Tryz.f112,FM)),
(113,(Tryz.f113,FN)),
(114,(Tryz.f114,FO)),
(115,(Tryz.f115,FP)),
(117,(Tryz.f117,FQ)),
(118,(Tryz.f118,FS)),
(119,(Tryz.f119,FT)),
(120,(Tryz.f120,FU)),
(121,(Tryz.f121,FV)),
(122,(Tryz.f122,FX)),
(123,(Tryz.f123,FY)),
(134,(Tryz.f134,FZ)),
(135,(Tryz.f135,F0)),
(136,(Tryz.f136,F5)),
(138,(Tryz.f138,F6)),
(143,(Tryz.f143,F7)),
(144,(Tryz.f144,F8)),
(146,(Tryz.f146,F9)),
(147,(Tryz.f147,Ga)),
(153,(Tryz.f153,Gb)),
(154,(Tryz.f154,Gc)),
(166,(Tryz.f166,Gd)),
(171,(Tryz.f171,Ge))]
def sR:List (Nat×(Func×Ann))->Nat->Option (Func×Ann)
 |[],_=>none
 |(k,x):: r,t=>bif Nat.beq k t then some x else sR r t
def own:FuncId->Option Nat:=fun f=>bif Nat.beq f 79 then some 3 else none
noncomputable def other:FuncId->Option ((FuncId->List AV->M AV)->List AV->M AV):=fun f=>
 bif Nat.beq f 32 then some (ff 5)else bif Nat.beq f 48 then some (dX T 33)else bif Nat.beq f 49 then some (lI)else bif Nat.beq f 56 then some (gH 5 57)else bif Nat.beq f 68 then some (iT [(67,2)])else bif Nat.beq f 69 then some (sZ)else bif Nat.beq f 71 then some (z8)else bif Nat.beq f 81 then some (jJ)else bif Nat.beq f 108 then some (gI)else bif Nat.beq f 109 then some (sr 168)else bif Nat.beq f 137 then some (lP)else none
noncomputable def pg:Pg:={ T:=T,funcs:=sR nK,own:=own,other:=other,nw:=fun f=>bif Nat.beq f 48 then true else false }
def hOther:dK pg:=by
 intro f E hE call calls hc;have h0:other f=some E:=hE;unfold other at h0;rcases dH h0 with rfl|h0
 ·exact bR.const _
 rcases dH h0 with rfl|h0
 ·exact qb _ _ _ _
 rcases dH h0 with rfl|h0
 ·exact bR.const _
 rcases dH h0 with rfl|h0
 ·exact bR.const _
 rcases dH h0 with rfl|h0
 ·exact bR.const _
 rcases dH h0 with rfl|h0
 ·exact bR.const _
 rcases dH h0 with rfl|h0
 ·exact bR.const _
 rcases dH h0 with rfl|h0
 ·exact bR.const _
 rcases dH h0 with rfl|h0
 ·exact bR.const _
 rcases dH h0 with rfl|h0
 ·exact bR.const _
 rcases dH h0 with rfl|h0
 ·exact bR.const _
 cases h0
structure RV (m:M AV)
structure RL (m:M (List AV))
structure RI (m:AV)
instance {m:M AV}:CoeOut (RV m) (M AV):=⟨fun _=>m⟩
instance {m:M (List AV)}:CoeOut (RL m) (M (List AV)):=⟨fun _=>m⟩
instance {m:AV}:CoeOut (RI m) AV:=⟨fun _=>m⟩
def qi(n:Int):RI (AV.int .i64 n):=⟨⟩
def qc(x:AV):RI (AV.ip (af x)):=⟨⟩
structure RM (l:List AV)
instance {l:List AV}:CoeOut (RM l) (List AV):=⟨fun _=>l⟩
def kO(v l:List AV):RM (aa v 0::aa v 1::aa v 2::l):=⟨⟩
def wC(v l:List AV):RM (aa v 0::aa v 1::aa v 2::aa v 3::l):=⟨⟩
def EP(v:List AV):RM [aa v 0,aa v 1,aa v 2,aa v 3,aa v 4]:=⟨⟩
def Hl(v l:List AV):RM (aa v 0::aa v 1::aa v 2::aa v 3::aa v 4::l):=⟨⟩
def q8(v:List AV):RM [aa v 0,aa v 1,aa v 2,aa v 3,aa v 4,aa v 5]:=⟨⟩
def LU(v l:List AV):RM (aa v 0::aa v 1::aa v 2::aa v 3::aa v 4::aa v 5::l):=⟨⟩
def LV(v l:List AV):RM (aa v 0::aa v 1::aa v 2::aa v 3::aa v 4::aa v 5::aa v 6::l):=⟨⟩
def LW(v l:List AV):RM (aa v 0::aa v 1::aa v 2::aa v 3::aa v 4::aa v 5::aa v 6::aa v 7::aa v 8::l):=⟨⟩
def jf(t:TypeId)(p:AV)(f:AV->M (AV)):RV (ap (bF (aX T t p)) f):=⟨⟩
def kA(t:TypeId)(p:AV)(i:Nat)(f:AV->M (AV)):RV (ap (bF (aB T t p i)) f):=⟨⟩
def bq(o:BinOp)(t:TypeId)(x y:AV)(f:AV->M (AV)):RV (ap (bF (bo T o t x y)) f):=⟨⟩
def df(t:TypeId)(p:AV)(f:AV->M (AV)):RV (ap (bF (kM T t p)) f):=⟨⟩
def rZ(t:TypeId)(p i:AV)(f:AV->M (AV)):RV (ap (bF (aL T t p i)) f):=⟨⟩
def mb(p:AV)(f:AV->M (AV)):RV (ap (bF (iF p)) f):=⟨⟩
def rJ(b:Bool)(t:TypeId)(l:List (Nat×AV))(f:AV->M (AV)):RV (ap (bF (cv T b t l)) f):=⟨⟩
def ib(o:UnOp)(x:AV)(f:AV->M (AV)):RV (ap (bF (E1 o x)) f):=⟨⟩
def mQ(x:AV)(i:Nat)(f:AV->M (AV)):RV (ap (bF (dw x i)) f):=⟨⟩
def AQ(t:TypeId)(n:Nat)(l:List (Nat×AV))(f:AV->M (AV)):RV (ap (bF (bP T t n l)) f):=⟨⟩
def pF(t:TypeId)(p:AV)(f:AV->M (AV)):RV (ap (eI T t p) f):=⟨⟩
def zq(t:TypeId)(p v:AV)(f:AV->M (AV)):RV (ap (da T t p v) f):=⟨⟩
def mP(n:Nat)(x:AV)(f:AV->M (AV)):RV (ap (cy n x) f):=⟨⟩
def jj(n:Nat)(l:List Nat)(x:AV)(f:AV->M (AV)):RV (ap (aI n l x) f):=⟨⟩
def r7(x:AV)(f:AV->M (AV)):RV (ap (cw x) f):=⟨⟩
def bB(t:TypeId)(p:AV)(i:Nat)(u:TypeId)(f:AV->M (AV)):RV (ap (bF (aB T t p i)) fun v=>ap (bF (aX T u v)) f):=⟨⟩
def ji(t:TypeId)(p i:AV)(u:TypeId)(f:AV->M (AV)):RV (ap (bF (aL T t p i)) fun v=>ap (bF (aX T u v)) f):=⟨⟩
def dU(o:BinOp)(t:TypeId)(x y:AV)(m n:M (AV)):RV (ap (bF (bo T o t x y)) fun v=>aD v m n):=⟨⟩
def dD(c:AV)(m:M (List AV))(f:AV->M (AV)):RV (ap (bc c true 1 m) fun w=>ap (bF (ia c (aa w 0) (AV.bool false))) f):=⟨⟩
def dz(c:AV)(m:M (List AV))(f:AV->M (AV)):RV (ap (bc c false 1 m) fun w=>ap (bF (ia c (AV.bool true) (aa w 0))) f):=⟨⟩
def mO(t:TypeId)(p:AV)(f:AV->M (List AV)):RL (ap (bF (aX T t p)) f):=⟨⟩
def AK(t:TypeId)(p:AV)(i:Nat)(f:AV->M (List AV)):RL (ap (bF (aB T t p i)) f):=⟨⟩
def bX(o:BinOp)(t:TypeId)(x y:AV)(f:AV->M (List AV)):RL (ap (bF (bo T o t x y)) f):=⟨⟩
def yn(c x y:AV)(f:AV->M (List AV)):RL (ap (bF (ia c x y)) f):=⟨⟩
def jz(t:TypeId)(p:AV)(f:AV->M (List AV)):RL (ap (bF (kM T t p)) f):=⟨⟩
def Ft(t:TypeId)(p i:AV)(f:AV->M (List AV)):RL (ap (bF (aL T t p i)) f):=⟨⟩
def Mv(p:AV)(f:AV->M (List AV)):RL (ap (bF (iF p)) f):=⟨⟩
def kI(o:UnOp)(x:AV)(f:AV->M (List AV)):RL (ap (bF (E1 o x)) f):=⟨⟩
def LR(t:TypeId)(p:AV)(f:AV->M (List AV)):RL (ap (eI T t p) f):=⟨⟩
def bU(t:TypeId)(p:AV)(i:Nat)(u:TypeId)(f:AV->M (List AV)):RL (ap (bF (aB T t p i)) fun v=>ap (bF (aX T u v)) f):=⟨⟩
def K1(t:TypeId)(p i:AV)(u:TypeId)(f:AV->M (List AV)):RL (ap (bF (aL T t p i)) fun v=>ap (bF (aX T u v)) f):=⟨⟩
end Go.Proofs.YtighgcgmocboaaaGreatDoor
namespace Go.Proofs.YtighgcgmocboaaaGreatDoor
open Go Go.Av
set_option maxRecDepth 1000000
instance dr0:Dr:=⟨False⟩
def pr{p:Prop}(h:Dr.on):p:=False.elim h
def Hs:(tab.map fun x=>Ht Tryz.prog x.1)=tab.map fun x=>some x.2:=by kernel_rfl
theorem sS:(l:List (Nat×TI))->(t:Nat)->(ti:TI)->yV l t=some ti->(t,ti)∈l
 |[],t,ti,h=>by cases h
 | (k,x):: r,t,ti,h=>by
  simp only[yV]at h;cases hk:Nat.beq k t with
  |true=>
   rw[hk]at h;simp only[M6,M4]at h
   have:=Nat.eq_of_beq_eq_true hk
   subst this h;exact List.mem_cons_self
  |false=>
   rw[hk]at h;exact O6 _ (sS r t ti h)
theorem gK{α β:Type}{f g:α->β}:{l:List α} ->l.map f=l.map g->∀x∈l,f x=g x
 |[],_,x,hx=>by cases hx
 |a:: l,h,x,hx=>by
  simp only[NL,Pb]at h;rcases NT.1 hx with rfl|hx
  ·exact h.1
  ·exact gK h.2 x hx
def tok:TOK Tryz.prog T:=⟨fun t ti h=>gK Hs (t,ti) (sS tab t ti h),by kernel_rfl⟩
def uG:(nK.map fun x=>Tryz.prog.funcs[x.1]?)=nK.map fun x=>some x.2.1:=by kernel_rfl
def mJ:(nK.map fun x=>x.2.1.name== "runtime.NumGoroutine")=nK.map fun _=>false:=by kernel_rfl
theorem od:(l:List (Nat×(Func×Ann)))->(t:Nat)->(x:Func×Ann)->sR l t=some x->(t,x)∈l
 |[],t,ti,h=>by cases h
 | (k,x):: r,t,ti,h=>by
  simp only[sR]at h;cases hk:Nat.beq k t with
  |true=>
   rw[hk]at h;simp only[M6,M4]at h
   have:=Nat.eq_of_beq_eq_true hk
   subst this h;exact List.mem_cons_self
  |false=>
   rw[hk]at h;exact O6 _ (od r t ti h)
def vM:∀f fn a,pg.funcs f=some (fn,a)->Tryz.prog.funcs[f]? = some fn/\(fn.name== "runtime.NumGoroutine")=false:=by
 intro f fn a h
 have:=od nK f (fn,a) h
 exact⟨gK uG _ this,gK mJ _ this⟩
end Go.Proofs.YtighgcgmocboaaaGreatDoor
namespace Go.Proofs.YtighgcgmocboaaaGreatDoor
open Go Go.Av Go.RowKit
set_option maxRecDepth 100000
def below_grow(w:World)(k:Nat)(os:Array Obj):Below w.heap.size w (Go.Sort.grow (w.drewN k) os):=by
 refine (show Below w.heap.size w (w.drewN k)from⟨rfl,rfl,rfl,M7 _,fun _ _=>rfl⟩).trans ⟨rfl,rfl,rfl,?_,fun b hb=>?_⟩
 ·simp[Go.Sort.grow]
 ·have hb':b<(w.drewN k).heap.size:=hb;show ((w.drewN k).heap++os)[b]? = _;rw[OC hb']
def EZ{w:World}(h:GOKw w):Lib.TabIs Tryz.prog w "internal/strconv.uint64pow10" .u64 Lib.pow10Tab:=by
 obtain⟨t,fr,hp⟩:=h.pow
 have hn:Tryz.prog.globalNamed "internal/strconv.uint64pow10" = some 1:=by kernel_rfl
 unfold Lib.TabIs World.var?;rw[hn];simp only[OV,hp]
def Ky(call:FuncId->List AV->M AV)(args:List AV)(h:Hp)(S:ay)(β:List bI)(w:World)(vs:List Value)(hr:sZ call args h≠.fail)(hg:pt S β h w)(hw:Wf S w)(hh:cS S β w h)(hv:aV S β args vs):
  Calls Tryz.prog 69 vs.toArray w (eh none S β h w (sZ call args h)):=by
 unfold sZ at hr |-;split at hr
 ·rename_i n;simp only[aV,VR]at hv;obtain⟨v,r,rfl,rfl,rfl⟩:=hv;cases hc:(decide (-9223372036854775808<=n)&&decide (n<=9223372036854775807))with
  |false=>rw[hc]at hr;exact absurd rfl hr
  |true=>
   simp only[M5,M8]at hc;simp only[M6];refine (Any.strconv_Itoa MV n hc.1 hc.2 w (EZ hg.1)).mono ?_;rintro e w' ⟨rfl,k,os,rfl⟩;exact cF hw hh (below_grow w k os) pr (by simp only[VR];exact⟨_,rfl,by rw[Ch hc.1 hc.2]⟩)
 ·exact absurd rfl hr
def pI{S:ay}{β:List bI}{s:List UInt8}{r:List Value}{l:List AV}(hv:aV S β (.str s:: l) r):∃x r',r= .string x:: r'/\x.data.toList=s/\aV S β l r':=by
 simp only[aV,VR]at hv;obtain⟨v,r',rfl,⟨x,rfl,hx⟩,h⟩:=hv;exact⟨x,r',rfl,hx,h⟩
def KA(call:FuncId->List AV->M AV)(args:List AV)(h:Hp)(S:ay)(β:List bI)(w:World)(vs:List Value)(hr:jJ call args h≠.fail)(hg:pt S β h w)(hw:Wf S w)(hh:cS S β w h)(hv:aV S β args vs):
  Calls Tryz.prog 81 vs.toArray w (eh none S β h w (jJ call args h)):=by
 unfold jJ at hr |-;split at hr
 ·rename_i s t;obtain⟨x,r,rfl,hx,hv⟩:=pI hv;obtain⟨y,r,rfl,hy,hv⟩:=pI hv;simp only[aV]at hv;subst hv;cases hc:decide (s.length<4294967281)with
  |false=>rw[hc]at hr;exact absurd rfl hr
  |true=>
   simp only[M6];have hlen:x.size=s.length:=by rw[<- hx,NZ];rfl
   obtain⟨m,hm⟩:=hg.1.max;refine (Any.strings_Contains MW x y m w (by have:=Pm hc;omega) hm).mono ?_;rintro e w' ⟨rfl,rfl⟩;exact cF hw hh (Below.refl _ _) pr (by simp only[VR];rw[hx,hy])
 ·exact absurd rfl hr
end Go.Proofs.YtighgcgmocboaaaGreatDoor
namespace Go.Proofs
open Go.Shelf
def MO:Go.Shelf.Ren:=⟨fun|6=>56|15=>93|14=>92|28=>132|29=>133|20=>124|21=>125|22=>126|23=>127|24=>128|25=>129|26=>130|27=>131|46=>148|47=>149|48=>150|49=>151|50=>152|57=>170|n=>n,fun|22=>30|24=>37|25=>91|3=>3|39=>116|0=>0|53=>139|55=>141|4=>4|46=>132|45=>131|50=>136|5=>5|9=>9|66=>151|70=>155|76=>172|77=>173|n=>n,fun|n=>n⟩
def MM:Go.Proofs.SlLaysF0.n6 Tryz.prog MO:={
 mixed:=by kernel_rfl
 f6:=⟨Tryz.f56.name,by decide,Tryz.func56.trans (Nq some (by kernel_rfl))⟩
 f14:=⟨Tryz.f92.name,by decide,Tryz.func92.trans (Nq some (by kernel_rfl))⟩
 f15:=Tryz.func93.trans (Nq some (by kernel_rfl))
 f20:=⟨Tryz.f124.name,by decide,Tryz.func124.trans (Nq some (by kernel_rfl))⟩
 f21:=⟨Tryz.f125.name,by decide,Tryz.func125.trans (Nq some (by kernel_rfl))⟩
 f22:=⟨Tryz.f126.name,by decide,Tryz.func126.trans (Nq some (by kernel_rfl))⟩
 f23:=⟨Tryz.f127.name,by decide,Tryz.func127.trans (Nq some (by kernel_rfl))⟩
 f24:=⟨Tryz.f128.name,by decide,Tryz.func128.trans (Nq some (by kernel_rfl))⟩
 f25:=⟨Tryz.f129.name,by decide,Tryz.func129.trans (Nq some (by kernel_rfl))⟩
 f26:=⟨Tryz.f130.name,by decide,Tryz.func130.trans (Nq some (by kernel_rfl))⟩
 f27:=⟨Tryz.f131.name,by decide,Tryz.func131.trans (Nq some (by kernel_rfl))⟩
 f28:=Tryz.func132.trans (Nq some (by kernel_rfl))
 f29:=Tryz.func133.trans (Nq some (by kernel_rfl))
 f46:=⟨Tryz.f148.name,by decide,Tryz.func148.trans (Nq some (by kernel_rfl))⟩
 f47:=Tryz.func149.trans (Nq some (by kernel_rfl))
 f48:=Tryz.func150.trans (Nq some (by kernel_rfl))
 f49:=⟨Tryz.f151.name,by decide,Tryz.func151.trans (Nq some (by kernel_rfl))⟩
 f50:=⟨Tryz.f152.name,by decide,Tryz.func152.trans (Nq some (by kernel_rfl))⟩
 f57:=⟨Tryz.f170.name,by decide,Tryz.func170.trans (Nq some (by kernel_rfl))⟩
 t0:=Tryz.underlying0
 a0:=Tryz.isAgg0
 z0:=Tryz.sizeOf0
 v0:=Tryz.zeroValue0
 t3:=Tryz.underlying3
 a3:=Tryz.isAgg3
 z3:=Tryz.sizeOf3
 v3:=Tryz.zeroValue3
 t4:=Tryz.underlying4
 a4:=Tryz.isAgg4
 z4:=Tryz.sizeOf4
 v4:=Tryz.zeroValue4
 t5:=Tryz.underlying5
 a5:=Tryz.isAgg5
 z5:=Tryz.sizeOf5
 v5:=Tryz.zeroValue5
 t9:=Tryz.underlying9
 a9:=Tryz.isAgg9
 z9:=Tryz.sizeOf9
 v9:=Tryz.zeroValue9
 t22:=Tryz.underlying30
 a22:=Tryz.isAgg30
 z22:=Tryz.sizeOf30
 v22:=Tryz.zeroValue30
 t25:=Tryz.underlying91
 a25:=Tryz.isAgg91
 z25:=Tryz.sizeOf91
 v25:=Tryz.zeroValue91
 t39:=Tryz.underlying116
 a39:=Tryz.isAgg116
 z39:=Tryz.sizeOf116
 v39:=Tryz.zeroValue116
 t45:=Tryz.underlying131
 a45:=Tryz.isAgg131
 z45:=Tryz.sizeOf131
 v45:=Tryz.zeroValue131
 t46:=Tryz.underlying132
 a46:=Tryz.isAgg132
 z46:=Tryz.sizeOf132
 v46:=Tryz.zeroValue132
 t50:=Tryz.underlying136
 a50:=Tryz.isAgg136
 z50:=Tryz.sizeOf136
 v50:=Tryz.zeroValue136
 t53:=Tryz.underlying139
 a53:=Tryz.isAgg139
 z53:=Tryz.sizeOf139
 v53:=Tryz.zeroValue139
 t55:=Tryz.underlying141
 a55:=Tryz.isAgg141
 z55:=Tryz.sizeOf141
 v55:=Tryz.zeroValue141
 t66:=Tryz.underlying151
 a66:=Tryz.isAgg151
 z66:=Tryz.sizeOf151
 v66:=Tryz.zeroValue151
 t70:=Tryz.underlying155
 a70:=Tryz.isAgg155
 z70:=Tryz.sizeOf155
 v70:=Tryz.zeroValue155
 t76:=Tryz.underlying172
 a76:=Tryz.isAgg172
 z76:=Tryz.sizeOf172
 v76:=Tryz.zeroValue172
 t77:=Tryz.underlying173
 a77:=Tryz.isAgg173
 z77:=Tryz.sizeOf173
 v77:=Tryz.zeroValue173 }
def MP:Go.Shelf.Ren:=⟨fun|172=>109|244=>141|245=>142|247=>161|279=>162|280=>163|281=>164|282=>165|287=>177|316=>178|171=>69|205=>179|321=>183|322=>184|243=>107|246=>139|283=>156|284=>157|285=>158|286=>159|129=>133|317=>173|318=>174|319=>175|320=>176|337=>181|338=>182|n=>n,fun|9=>9|3=>3|75=>69|76=>70|4=>4|5=>5|167=>165|37=>65|0=>0|85=>166|2=>2|168=>168|53=>141|175=>181|46=>116|210=>184|127=>96|145=>191|143=>189|21=>21|171=>161|173=>163|212=>178|51=>139|20=>20|213=>179|232=>192|233=>193|80=>75|n=>n,fun|15=>2|16=>3|17=>1|18=>4|19=>5|n=>n⟩
def MN:Go.Proofs.LaysC.n172 Tryz.prog MP:={
 mixed:=by kernel_rfl
 f129:=Tryz.func133.trans (Nq some (by kernel_rfl))
 f171:=Tryz.func69.trans (Nq some (by kernel_rfl))
 f172:=Tryz.func109.trans (Nq some (by kernel_rfl))
 f205:=Tryz.func179.trans (Nq some (by kernel_rfl))
 f243:=Tryz.func107.trans (Nq some (by kernel_rfl))
 f244:=Tryz.func141.trans (Nq some (by kernel_rfl))
 f245:=Tryz.func142.trans (Nq some (by kernel_rfl))
 f246:=Tryz.func139.trans (Nq some (by kernel_rfl))
 f247:=Tryz.func161.trans (Nq some (by kernel_rfl))
 f279:=Tryz.func162.trans (Nq some (by kernel_rfl))
 f280:=Tryz.func163.trans (Nq some (by kernel_rfl))
 f281:=Tryz.func164.trans (Nq some (by kernel_rfl))
 f282:=Tryz.func165.trans (Nq some (by kernel_rfl))
 f283:=Tryz.func156.trans (Nq some (by kernel_rfl))
 f284:=Tryz.func157.trans (Nq some (by kernel_rfl))
 f285:=Tryz.func158.trans (Nq some (by kernel_rfl))
 f286:=Tryz.func159.trans (Nq some (by kernel_rfl))
 f287:=Tryz.func177.trans (Nq some (by kernel_rfl))
 f316:=Tryz.func178.trans (Nq some (by kernel_rfl))
 f317:=Tryz.func173.trans (Nq some (by kernel_rfl))
 f318:=Tryz.func174.trans (Nq some (by kernel_rfl))
 f319:=Tryz.func175.trans (Nq some (by kernel_rfl))
 f320:=Tryz.func176.trans (Nq some (by kernel_rfl))
 f321:=Tryz.func183.trans (Nq some (by kernel_rfl))
 f322:=Tryz.func184.trans (Nq some (by kernel_rfl))
 f337:=Tryz.func181.trans (Nq some (by kernel_rfl))
 f338:=Tryz.func182.trans (Nq some (by kernel_rfl))
 t0:=Tryz.underlying0
 a0:=Tryz.isAgg0
 z0:=Tryz.sizeOf0
 v0:=Tryz.zeroValue0
 t2:=Tryz.underlying2
 a2:=Tryz.isAgg2
 z2:=Tryz.sizeOf2
 v2:=Tryz.zeroValue2
 t3:=Tryz.underlying3
 a3:=Tryz.isAgg3
 z3:=Tryz.sizeOf3
 v3:=Tryz.zeroValue3
 t4:=Tryz.underlying4
 a4:=Tryz.isAgg4
 z4:=Tryz.sizeOf4
 v4:=Tryz.zeroValue4
 t5:=Tryz.underlying5
 a5:=Tryz.isAgg5
 z5:=Tryz.sizeOf5
 v5:=Tryz.zeroValue5
 t9:=Tryz.underlying9
 a9:=Tryz.isAgg9
 z9:=Tryz.sizeOf9
 v9:=Tryz.zeroValue9
 t20:=Tryz.underlying20
 a20:=Tryz.isAgg20
 z20:=Tryz.sizeOf20
 v20:=Tryz.zeroValue20
 t21:=Tryz.underlying21
 a21:=Tryz.isAgg21
 z21:=Tryz.sizeOf21
 v21:=Tryz.zeroValue21
 t37:=Tryz.underlying65
 a37:=Tryz.isAgg65
 z37:=Tryz.sizeOf65
 v37:=Tryz.zeroValue65
 t46:=Tryz.underlying116
 a46:=Tryz.isAgg116
 z46:=Tryz.sizeOf116
 v46:=Tryz.zeroValue116
 t51:=Tryz.underlying139
 a51:=Tryz.isAgg139
 z51:=Tryz.sizeOf139
 v51:=Tryz.zeroValue139
 t53:=Tryz.underlying141
 a53:=Tryz.isAgg141
 z53:=Tryz.sizeOf141
 v53:=Tryz.zeroValue141
 t75:=Tryz.underlying69
 a75:=Tryz.isAgg69
 z75:=Tryz.sizeOf69
 v75:=Tryz.zeroValue69
 t76:=Tryz.underlying70
 a76:=Tryz.isAgg70
 z76:=Tryz.sizeOf70
 v76:=Tryz.zeroValue70
 t85:=Tryz.underlying166
 a85:=Tryz.isAgg166
 z85:=Tryz.sizeOf166
 v85:=Tryz.zeroValue166
 t127:=Tryz.underlying96
 a127:=Tryz.isAgg96
 z127:=Tryz.sizeOf96
 v127:=Tryz.zeroValue96
 t143:=Tryz.underlying189
 a143:=Tryz.isAgg189
 z143:=Tryz.sizeOf189
 v143:=Tryz.zeroValue189
 t145:=Tryz.underlying191
 a145:=Tryz.isAgg191
 z145:=Tryz.sizeOf191
 v145:=Tryz.zeroValue191
 t167:=Tryz.underlying165
 a167:=Tryz.isAgg165
 z167:=Tryz.sizeOf165
 v167:=Tryz.zeroValue165
 t168:=Tryz.underlying168
 a168:=Tryz.isAgg168
 z168:=Tryz.sizeOf168
 v168:=Tryz.zeroValue168
 t171:=Tryz.underlying161
 a171:=Tryz.isAgg161
 z171:=Tryz.sizeOf161
 v171:=Tryz.zeroValue161
 t173:=Tryz.underlying163
 a173:=Tryz.isAgg163
 z173:=Tryz.sizeOf163
 v173:=Tryz.zeroValue163
 t175:=Tryz.underlying181
 a175:=Tryz.isAgg181
 z175:=Tryz.sizeOf181
 v175:=Tryz.zeroValue181
 t210:=Tryz.underlying184
 a210:=Tryz.isAgg184
 z210:=Tryz.sizeOf184
 v210:=Tryz.zeroValue184
 t212:=Tryz.underlying178
 a212:=Tryz.isAgg178
 z212:=Tryz.sizeOf178
 v212:=Tryz.zeroValue178
 t213:=Tryz.underlying179
 a213:=Tryz.isAgg179
 z213:=Tryz.sizeOf179
 t232:=Tryz.underlying192
 a232:=Tryz.isAgg192
 z232:=Tryz.sizeOf192
 v232:=Tryz.zeroValue192
 t233:=Tryz.underlying193
 a233:=Tryz.isAgg193
 z233:=Tryz.sizeOf193
 v233:=Tryz.zeroValue193
 g15:=by kernel_rfl
 g16:=by kernel_rfl
 g17:=by kernel_rfl
 g18:=by kernel_rfl
 g19:=by kernel_rfl
 t80:=Tryz.underlying75
 a80:=Tryz.isAgg75
 z80:=Tryz.sizeOf75
 v80:=Tryz.zeroValue75
 i0:=by kernel_rfl
 i2:=by kernel_rfl
 i3:=by kernel_rfl
 i4:=by kernel_rfl
 i5:=by kernel_rfl
 i9:=by kernel_rfl
 i20:=by kernel_rfl
 i21:=by kernel_rfl
 i37:=by kernel_rfl
 i46:=by kernel_rfl
 i51:=by kernel_rfl
 i53:=by kernel_rfl
 i75:=by kernel_rfl
 i76:=by kernel_rfl
 i80:=by kernel_rfl
 i85:=by kernel_rfl
 i127:=by kernel_rfl
 i143:=by kernel_rfl
 i145:=by kernel_rfl
 i167:=by kernel_rfl
 i168:=by kernel_rfl
 i171:=by kernel_rfl
 i173:=by kernel_rfl
 i175:=by kernel_rfl
 i210:=by kernel_rfl
 i212:=by kernel_rfl
 i232:=by kernel_rfl
 i233:=by kernel_rfl
 m15:=by kernel_rfl
 m16:=by kernel_rfl
 m17:=by kernel_rfl
 m18:=by kernel_rfl
 m19:=by kernel_rfl
 c0:=by kernel_rfl
 c2:=by kernel_rfl
 c3:=by kernel_rfl
 c4:=by kernel_rfl
 c5:=by kernel_rfl
 c9:=by kernel_rfl
 c20:=by kernel_rfl
 c21:=by kernel_rfl
 c37:=by kernel_rfl
 c46:=by kernel_rfl
 c51:=by kernel_rfl
 c53:=by kernel_rfl
 c75:=by kernel_rfl
 c76:=by kernel_rfl
 c80:=by kernel_rfl
 c85:=by kernel_rfl
 c127:=by kernel_rfl
 c143:=by kernel_rfl
 c145:=by kernel_rfl
 c167:=by kernel_rfl
 c168:=by kernel_rfl
 c171:=by kernel_rfl
 c173:=by kernel_rfl
 c175:=by kernel_rfl
 c210:=by kernel_rfl
 c212:=by kernel_rfl
 c213:=by kernel_rfl
 c232:=by kernel_rfl
 c233:=by kernel_rfl }
def MS:Go.Shelf.Ren:=⟨fun|137=>108|217=>140|266=>160|n=>n,fun|9=>9|5=>5|3=>3|n=>n,fun|n=>n⟩
def MX:Go.Proofs.Lays.n137 Tryz.prog MS:={
 mixed:=by kernel_rfl
 f137:=Tryz.func108.trans (Nq some (by kernel_rfl))
 f217:=Tryz.func140.trans (Nq some (by kernel_rfl))
 f266:=Tryz.func160.trans (Nq some (by kernel_rfl))
 t3:=Tryz.underlying3
 a3:=Tryz.isAgg3
 z3:=Tryz.sizeOf3
 v3:=Tryz.zeroValue3
 t5:=Tryz.underlying5
 a5:=Tryz.isAgg5
 z5:=Tryz.sizeOf5
 v5:=Tryz.zeroValue5
 t9:=Tryz.underlying9
 a9:=Tryz.isAgg9
 z9:=Tryz.sizeOf9
 v9:=Tryz.zeroValue9 }
end Go.Proofs
namespace Go.Proofs.YtighgcgmocboaaaGreatDoor
open Go Go.Av Go.RowKit
set_option maxRecDepth 100000
def Hh(call:FuncId->List AV->M AV)(args:List AV)(h:Hp)(S:ay)(β:List bI)(w:World)(vs:List Value)(hr:sr 168 call args h≠.fail)(hg:pt S β h w)(hw:Wf S w)(hh:cS S β w h)(hv:aV S β args vs):
  Calls Tryz.prog 109 vs.toArray w (eh none S β h w (sr 168 call args h)):=by
 unfold sr at hr |-;split at hr
 ·rename_i s;obtain⟨x,r,rfl,hx,hv⟩:=pI hv;simp only[aV]at hv;subst hv;cases hc:decide (s.length<=281474976710656)with
  |false=>rw[hc]at hr;exact absurd rfl hr
  | true=>
   simp only[M6];have hlen:x.size=s.length:=by rw[<- hx,NZ];rfl
   have hlim:=Pm hc;subst hx;cases ha:Lib.atoiAll x.data.toList with
   |ok v=>
    refine (Any.strconv_Atoi_ok MN x (by omega) v ha w).mono ?_;rintro e w' ⟨rfl,hW⟩;refine cF hw hh ?_ pr (by simp only[oK,ha,VR,aV];exact⟨[_,_],rfl,_,_,rfl,rfl,_,_,rfl,rfl,rfl⟩);rcases hW with rfl|⟨t,rfl⟩
    ·exact Below.refl _ _
    ·exact Lib.bytesWorld_below _ _ _
   |range=>
    obtain⟨t,p,hs⟩:=hg.1.rng;refine (Any.strconv_Atoi_range MN x (by omega) ha _ w hs (.inr ⟨t,p,rfl⟩)).mono ?_;rintro e w' ⟨N,rfl,_,_,hb⟩;exact cF hw hh hb pr (by simp only[oK,ha,VR,aV];exact⟨[_,_],rfl,_,_,rfl,rfl,_,_,rfl,⟨_,rfl,trivial⟩,rfl⟩)
   |_=>
    obtain⟨t,p,hs⟩:=hg.1.syn;refine (Any.strconv_Atoi_syntax MN x (by omega) ha _ w hs (.inr ⟨t,p,rfl⟩)).mono ?_;rintro e w' ⟨N,rfl,_,_,hb⟩;exact cF hw hh hb pr (by simp only[oK,ha,VR,aV];exact⟨[_,_],rfl,_,_,rfl,rfl,_,_,rfl,⟨_,rfl,trivial⟩,rfl⟩)
 ·exact absurd rfl hr
def Hg(call:FuncId->List AV->M AV)(args:List AV)(h:Hp)(S:ay)(β:List bI)(w:World)(vs:List Value)(hr:gI call args h≠.fail)(_hg:pt S β h w)(hw:Wf S w)(hh:cS S β w h)(hv:aV S β args vs):
  Calls Tryz.prog 108 vs.toArray w (eh none S β h w (gI call args h)):=by
 unfold gI at hr |-;split at hr
 ·rename_i s n;obtain⟨x,r,rfl,hx,hv⟩:=pI hv;simp only[aV,VR]at hv;obtain⟨_,_,rfl,rfl,rfl⟩:=hv;refine (Any.strings_IndexByte MX x n w).mono ?_;rintro e w' ⟨rfl,rfl⟩;exact cF hw hh (Below.refl _ _) pr (by simp only[VR];rw[hx])
 ·exact absurd rfl hr
def Fb:∃j,Tryz.prog.info? 67=some j/\j.size=2:=by
 have h:(Tryz.prog.info? 67).map (·.size)=some 2:=by kernel_rfl
 obtain⟨j,h1,h2⟩:=On.1 h;exact⟨j,h1,h2⟩
set_option maxHeartbeats 1000000 in
def DR(b:Nat)(w:World)(h0:w.cell? ⟨b,0,none⟩=some (.pointer (some ⟨b,0,none⟩))):
  Calls Tryz.prog 68 #[.pointer (some ⟨b,0,none⟩)] w fun e w'=>e= .returned (.tuple #[])/\w'=w:=by
 obtain⟨j,hj,_⟩:=Fb
 go_enter Tryz.func68,Tryz.ntmps68
 go_wp2
 rw[Lib.run_neq_ptr_same w _ Tryz.underlying64 hj]
 go_wp2
 go_end0
 exact⟨rfl,rfl⟩
set_option maxHeartbeats 1000000 in
def BA(b T n:Nat)(w:World)(h0:w.cell? ⟨b,0,none⟩=some (.pointer none))(hsh:w.shape? b=some (T,n))(hn:0<n)(hfz:w.frozen? ⟨b,0,none⟩=false)(hlies:liesAt Tryz.prog Tryz.prog.depth T (n / Tryz.prog.cellsOf T) 0 67 1=true):
  Calls Tryz.prog 68 #[.pointer (some ⟨b,0,none⟩)] w fun e w'=>e= .returned (.tuple #[])/\w'=w.setCell ⟨b,0,none⟩ (.pointer (some ⟨b,0,none⟩)):=by
 obtain⟨j,hj,hjs⟩:=Fb
 go_enter Tryz.func68,Tryz.ntmps68
 go_wp2
 rw[Lib.run_to_unsafe w ⟨b,0,none⟩ Tryz.underlying64 Tryz.underlying121 hj (by rw[hjs];decide) hsh hn];simp only[Result.andThen];rw[Oper.upon_value]
 go_wp2
 rw[run_callFunc_extern Tryz.func106 (by kernel_rfl) (by kernel_rfl) (by kernel_rfl) (e:=Extern.AbiNoEscape.same) (by kernel_rfl)];rw[Lib.run_noEscape];simp only[Result.andThen];rw[Oper.upon_value]
 go_wp2
 rw[Lib.run_from_unsafe w ⟨b,0,none⟩ Tryz.underlying121 Tryz.underlying64 hj hsh hlies];simp only[Result.andThen];rw[Oper.upon_value]
 go_wp2
 go_end0
 exact⟨rfl,rfl⟩
def zY:Tryz.prog.cellsOf 5=1:=by kernel_rfl
set_option maxHeartbeats 2000000 in
def Hr(b g cap:Nat)(cur:Array Value)(l:List UInt8)(w:World)(h0:l≠[])(hlt:l.length<=cap)(hc1:w.cell? ⟨b,1,none⟩=some (.slice (some ⟨g,0,none⟩) l.length cap))(hg:w.heap[g]? = some (.cells cur 5 (0,0)))(hcm:l.length<=140737488355328)(hsz:l.length<=cur.size)(hcells:∀(j:Nat)(x:UInt8),l[j]? = some x->cur[j]? = some (Value.int .u8 x.toNat)):
  Calls Tryz.prog 32 #[.pointer (some ⟨b,0,none⟩)] w fun e w'=>e= .returned (.string ⟨l.toArray⟩)/\w'=w.drew.freeze ⟨g,0,none⟩ l.length:=by
 have hl0:l.length≠0:=by simpa using h0
 have c1:w.drew.cell? ⟨b,1,none⟩=some (.slice (some ⟨g,0,none⟩) l.length cap):=hc1;have hSD:(Builtin.unsafeSliceData_ #[65] 96 #[.slice (some ⟨g,0,none⟩) l.length cap]).run Tryz.prog w.drew= .ok (.pointer (some ⟨g,0,none⟩)) w.drew:=
  Lib.run_unsafeSliceData_row _ _ _ _ _ _ (by omega)
 have hUS:(Builtin.unsafeString_ #[96,3] 9 #[.pointer (some ⟨g,0,none⟩),.int .i64 l.length]).run Tryz.prog w.drew= .ok (.string ⟨l.toArray⟩) (w.drew.freeze ⟨g,0,none⟩ l.length):=by
  refine Lib.run_unsafeString_row w.drew 96 3 9 5 Tryz.underlying96 zY g cur.size (by have hg':w.drew.heap[g]? = some (.cells cur 5 (0,0)):=hg;simp[World.shape?,hg']) l h0 hsz (by omega) ?_;intro j x hx;have hg':w.drew.heap[g]? = some (.cells cur 5 (0,0)):=hg;rw[addr_add,NB,cell_of_row _ _ _ _ _ _ hg'];exact hcells j x hx
 go_enter Tryz.func32,Tryz.ntmps32
 go_wp2
 have mixed:Tryz.prog.follows Departure.mixedOrders=true:=by kernel_rfl
 go_region_o
 all_goals (go_wp2;go_ret;exact⟨rfl,rfl⟩)
set_option maxHeartbeats 2000000 in
theorem Hq(b:Nat)(w:World)(hc1:w.cell? ⟨b,1,none⟩=some (.slice none 0 0)):
  Calls Tryz.prog 32 #[.pointer (some ⟨b,0,none⟩)] w fun e w'=>e= .returned (.string ⟨#[]⟩)/\w'=w.drew:=by
 have hUS:=fun W q=>Lib.run_unsafeString_none (P:=Tryz.prog) W 96 3 9 q;have c1:w.drew.cell? ⟨b,1,none⟩=some (.slice none 0 0):=hc1;have hSD:(Builtin.unsafeSliceData_ #[65] 96 #[.slice none 0 0]).run Tryz.prog w.drew= .ok (.pointer none) w.drew:=rfl
 go_enter Tryz.func32,Tryz.ntmps32
 go_wp2
 have mixed:Tryz.prog.follows Departure.mixedOrders=true:=by kernel_rfl
 go_region_o
 all_goals (go_wp2;go_ret;exact⟨rfl,rfl⟩)
def yv{P:Program}{fits:TypeId->Bool}{d:Nat}{e:TypeId}{c c' off n:Nat}(hc:c<=c')(h:rowAt P fits d e c off n=true):rowAt P fits d e c' off n=true:=by
 cases d with
 |zero=>simp[rowAt]at h
 | succ d=>
  simp only[rowAt]at h|-;split at h
  ·cases h
  ·rename_i hs;rw[M9 hs];simp only[NU,M5,M8]at h|-;rcases h with h|h
   ·exact .inl ⟨⟨h.1.1,by omega⟩,h.2⟩
   ·exact .inr ⟨by omega,h.2⟩
theorem pb{P:Program}{u:TypeId}{e:TypeId}{c c' off:Nat}(hc:c<=c'):∀(d:Nat)(u:TypeId)(n:Nat),liesAt P d e c off u n=true->liesAt P d e c' off u n=true
 |0,u,n,h=>by simp[liesAt]at h
 | d+1,u,n,h=>by
  simp only[liesAt,NU]at h|-;rcases h with h|h
  ·exact .inl (yv hc h)
  ·refine .inr ?_;split at h
   ·exact pb (u:=u) hc d _ _ h
   ·cases h
def Kn:liesAt Tryz.prog Tryz.prog.depth 67 1 0 67 1=true:=by kernel_rfl
def Gj:Tryz.prog.cellsOf 67=2:=by kernel_rfl
def wR{w:World}{b:Nat}{z:Array Value}{t:TypeId}(hb:w.heap[b]? = some (.cells z t (0,0)))(v:Value):w.setCell ⟨b,0,none⟩ v=w.setRow b (z.setIfInBounds 0 v):=by
 unfold World.setCell World.setRow;congr 1;apply Array.ext (by simp);intro i h1 h2;simp only[Array.getElem_modify];split
 ·rename_i hi;subst hi;obtain⟨hlt,hk⟩:=Ob.1 hb;rw[hk];rfl
 ·rfl
def Kx(call:FuncId->List AV->M AV)(args:List AV)(h:Hp)(S:ay)(β:List bI)(w:World)(vs:List Value)(hr:iT [(67,2)] call args h≠.fail)(hg:pt S β h w)(hw:Wf S w)(hh:cS S β w h)(hv:aV S β args vs):
  Calls Tryz.prog 68 vs.toArray w (eh none S β h w (iT [(67,2)] call args h)):=by
 unfold iT at hr |-;cases hpo:Ao args with
 |none=>rw[hpo]at hr;exact absurd rfl hr
 | some l=>
  rw[hpo]at hr
  have:=vR hpo
  subst this;simp only[aV,VR]at hv;obtain⟨_,_,rfl,⟨bk,hβ,hb0,rfl⟩,rfl⟩:=hv;obtain⟨b,nb⟩:=bk;dsimp only at hr |-;have hh0:=hh;obtain⟨hlen,ω,hhr⟩:=hh;cases hl:h[l]? with
  |none=>rw[hl]at hr;exact absurd rfl hr
  | some cs=>
   rw[hl]at hr;dsimp only at hr |-;cases hc:JL [(67,2)] l cs with
   |none=>rw[hc]at hr;exact absurd rfl hr
   | some cs'=>
    dsimp only;rcases DO hc with⟨t,x,r,rfl,rfl,n,hm,hn⟩|⟨r,rfl,rfl⟩
    ·obtain⟨z,j1,j2,j3,j4,j5⟩:=hhr.cells hl (by simp) hβ hb0;obtain⟨y,hy⟩:=hhr.tag hl ⟨_,List.mem_cons_self,rfl⟩ hβ;cases j2.inj ⟨t,hy⟩;have hsz:r.length+2<=z.size:=by
      have:=j4.length
      simp at this;omega
     have hz0:z[0]? = some (.pointer none):=by
      have:=j4.get (i:=0) (c:=.nilb t) rfl
      obtain⟨v,h1,h2⟩:=this;simp only[VR]at h2;subst h2;rw[Oa]at h1;split at h1
      ·simpa using h1
      ·cases h1
     have hlies:liesAt Tryz.prog Tryz.prog.depth t (z.size / Tryz.prog.cellsOf t) 0 67 1=true:=by
      simp only[NT,N9,List.not_mem_nil,or_false]at hm;obtain⟨rfl,rfl⟩:=hm;rw[Gj];exact pb (u:=67) (by omega) _ _ _ Kn
     refine (BA b t z.size w (by rw[cell_of_row _ _ _ _ _ _ hy];exact hz0) (by simp[World.shape?,hy]) (by omega) (by simp[World.frozen?,hy]) hlies).mono ?_;rintro e w' ⟨rfl,rfl⟩;rw[wR hy];refine xA hg hw hh0 hl (by simp) hβ j2 (by simp) ?_ (fun t' ht=>?_)
     ·have hzl:z.toList= .pointer none:: z.toList.drop 1:=by
       have:=Ng (l:=z.toList) (i:=0) (by simp;omega)
       simp only[Nk]at this;rw[this];congr 1;have h3:z.toList[0]? = some (.pointer none):=by simpa using hz0
       rw[Ns (by simp;omega)]at h3;simpa using h3
      have hz2:(z.setIfInBounds 0 (.pointer (some ⟨b,0,none⟩))).toList= .pointer (some ⟨b,0,none⟩):: z.toList.drop 1:=by
       simp only[Array.toList_setIfInBounds];rw[hzl];rfl
      rw[hz2];rw[hzl]at j4;simp only[Nr,NI,aV,VR]at j4 |-;obtain⟨_,_,h1,_,h2⟩:=j4;obtain⟨rfl,rfl⟩:=List.cons.inj h1;exact⟨_,_,rfl,⟨(b,nb),hβ,hb0,rfl⟩,h2⟩
     ·rcases ht.cons with ht|ht
      ·cases ht
      ·exact ht.mono fun a ha=>O6 _ ha
    ·obtain⟨z,j1,j2,j3,j4,j5⟩:=hhr.cells hl (by simp) hβ hb0;have hz0:z[0]? = some (.pointer (some ⟨b,0,none⟩)):=by
      have:=j4.get (i:=0) (c:=.hp l 0) rfl
      obtain⟨v,h1,h2⟩:=this;simp only[VR]at h2;obtain⟨bk,hbk,_,rfl⟩:=h2;rw[hβ]at hbk;cases hbk;rw[Oa]at h1;split at h1
      ·simpa using h1
      ·cases h1
     have hset:h.set l (.hp l 0:: r)=h:=by
      obtain⟨hlt,hk⟩:=N6.1 hl;rw[<- hk];exact List.set_getElem_self hlt
     rw[hset];refine (DR b w (by rw[j2.cell];exact hz0)).mono ?_;rintro e w' ⟨rfl,rfl⟩;exact cF hw hh0 (Below.refl _ _) pr (by simp only[VR];exact⟨[],rfl,by simp[aV]⟩)
theorem sF{S:ay}{β:List bI}{e:Nat}:{cs:List AV} ->{s:List UInt8} ->{vs:List Value} ->jv e cs=some s->aV S β cs vs->s.length=cs.length/\(∀(j:Nat)(x:UInt8),s[j]? = some x->vs[j]? = some (Value.int .u8 x.toNat))/\∀x∈cs,nL x=some e
 |[],s,vs,h,_=>by
  simp only[jv,M4]at h;subst h;exact⟨rfl,fun j x hx=>by simp at hx,fun x hx=>by cases hx⟩
 | c :: cs,s,vs,h,hv=>by
  simp only[jv]at h;cases h1:sE e c with
  |none=>rw[h1]at h;cases h
  | some b=>
   cases h2:jv e cs with
   |none=>rw[h1,h2]at h;cases h
   | some l=>
    rw[h1,h2]at h;simp only[M4]at h;subst h;simp only[aV]at hv;obtain⟨y,ys,rfl,hy,hv⟩:=hv;obtain⟨k1,k2,k3⟩:=sF h2 hv;unfold sE at h1;split at h1
    ·rename_i t n;cases hc:(Nat.beq t e&&decide (0<=n)&&decide (n<256))with
     |false=>rw[hc]at h1;cases h1
     | true=>
      rw[hc]at h1;simp only[M6,M4]at h1;simp only[M5,M8]at hc;obtain⟨⟨c1,c2⟩,c3⟩:=hc;have c1:=Nat.eq_of_beq_eq_true c1;subst c1 h1;simp only[VR]at hy;subst hy;refine⟨by simp[k1],fun j x hx=>?_,fun x hx=>?_⟩
      ·cases j with
       |zero=>
        simp only[ND,M4]at hx |-;subst hx;congr 1;have:(UInt8.ofNat n.toNat).toNat=n.toNat % 256:=rfl;rw[this,Nat.mod_eq_of_lt (by omega)];omega
       |succ j=>exact k2 j x (by simpa using hx)
      ·rcases NT.1 hx with rfl|hx
       ·rfl
       ·exact k3 x hx
    ·cases h1
def xR{w:World}{g n:Nat}:Gro w (w.drew.freeze ⟨g,0,none⟩ n)/\(w.drew.freeze ⟨g,0,none⟩ n).heap.size=w.heap.size/\∀k,k≠g->(w.drew.freeze ⟨g,0,none⟩ n).heap[k]? = w.heap[k]?:=by
 have h1:Gro w.drew (w.drew.freeze ⟨g,0,none⟩ n)/\(w.drew.freeze ⟨g,0,none⟩ n).heap.size=w.drew.heap.size/\∀k,k≠g->(w.drew.freeze ⟨g,0,none⟩ n).heap[k]? = w.drew.heap[k]?:=by
  generalize w.drew=v;unfold World.freeze;split
  ·exact⟨Gro.refl _,rfl,fun _ _=>rfl⟩
  ·refine⟨⟨by simp,rfl,rfl,rfl,fun _=>M7 _⟩,by simp,fun k hk=>?_⟩;simp only[O2];rw[M9 (by omega)]
 exact⟨(Gro.drew w).trans h1.1,h1.2.1,h1.2.2⟩
def Kt(call:FuncId->List AV->M AV)(args:List AV)(h:Hp)(S:ay)(β:List bI)(w:World)(vs:List Value)(hr:ff 5 call args h≠.fail)(hg:pt S β h w)(hw:Wf S w)(hh:cS S β w h)(hv:aV S β args vs):
  Calls Tryz.prog 32 vs.toArray w (eh none S β h w (ff 5 call args h)):=by
 unfold ff at hr |-;cases hpo:Ao args with
 |none=>rw[hpo]at hr;exact absurd rfl hr
 | some l =>
  rw[hpo]at hr
  have:=vR hpo
  subst this;simp only[aV,VR]at hv;obtain⟨_,_,rfl,⟨bk,hβ,hb0,rfl⟩,rfl⟩:=hv;obtain⟨b,nb⟩:=bk;dsimp only at hr |-;have hh0:=hh;obtain⟨hlen,ω,hhr⟩:=hh;have one:∀ {cs:List AV} {x y:AV} {r:List AV},h[l]? = some cs->cs=x:: y:: r->∃v,w.cell? ⟨b,1,none⟩=some v/\VR S β y v:=by
   rintro cs x y r hl rfl;obtain⟨z,j1,j2,j3,j4,j5⟩:=hhr.cells hl (by simp) hβ hb0;obtain⟨v,h1,h2⟩:=j4.get (i:=1) (c:=y) rfl;rw[Oa]at h1;split at h1
   ·exact⟨v,by rw[j2.cell];simpa using h1,h2⟩
   ·cases h1
  cases hl:h[l]? with
  |none=>rw[hl]at hr;exact absurd rfl hr
  | some cs0=>
   rw[hl]at hr;dsimp only at hr |-;cases hst:stA cs0 with
   |none=>rw[hst]at hr;exact absurd rfl hr
   | some q=>
    rw[hst]at hr;cases q with
    |none=>
     dsimp only;obtain⟨x,r,hx⟩:=Dc hst;obtain⟨v,hc1,hv1⟩:=one hl hx;simp only[VR]at hv1;subst hv1;refine (Hq b w hc1).mono ?_;rintro e w' ⟨rfl,rfl⟩;exact cF (w':=w.drew) (r:=.str []) (v:=.string ⟨#[]⟩) hw hh0 ⟨rfl,rfl,rfl,M7 _,fun _ _=>rfl⟩ pr (by simp only[VR];exact⟨_,rfl,rfl⟩)
    | some q=>
     obtain⟨lb,len⟩:=q;dsimp only at hr |-;obtain⟨x,r,hx,k1,k3⟩:=Dd hst;obtain⟨v,hc1,hv1⟩:=one hl hx;cases hcs:h[lb]? with
     |none=>rw[hcs]at hr;exact absurd rfl hr
     | some cs=>
      rw[hcs]at hr;dsimp only at hr |-;cases hle:Nat.ble len cs.length with
      |false=>rw[hle]at hr;exact absurd rfl hr
      | true=>
       rw[hle]at hr;simp only[M6]at hr |-;have k2:=Nat.le_of_ble_eq_true hle;cases hb:jv 5 (cs.take len)with
       |none=>rw[hb]at hr;exact absurd rfl hr
       | some s=>
        dsimp only;obtain⟨b2,cap,hβ2,hb20,rfl,hlc,hcn⟩:=hv1.hs_pos k1;obtain⟨g,ng⟩:=b2;obtain⟨z,j1,j2,j3,j4,j5⟩:=hhr.cells hcs (by rintro rfl;simp at k2;omega) hβ2 hb20;have j6:=j4.take len;rw[Oz,Pf k2]at j6;obtain⟨s1,s2,s3⟩:=sF hb j6;have hsl:s.length=len:=by rw[s1];simp;omega
        have hin:cT 5 cs:=by
         cases cs with
         |nil=>simp at k2;omega
         |cons c cs=>
          refine⟨c,List.mem_cons_self,s3 c ?_⟩;obtain⟨m,rfl⟩:∃m,len=m+1:=⟨len-1,by omega⟩;simp
        obtain⟨y,hy⟩:=hhr.tag hcs hin hβ2;cases j2.inj ⟨_,hy⟩;have hzl:cs.length<=z.size:=by have:=j4.length;simp at this;omega
        have hcell:∀(j:Nat)(x:UInt8),s[j]? = some x->z[j]? = some (Value.int .u8 x.toNat):=fun j x hx=>by
         have:=s2 j x hx
         rw[Oa]at this;split at this
         ·simpa using this
         ·cases this
        subst hsl;refine (Hr b g cap z s w (by rintro rfl;simp at k1) hlc hc1 hy k3 (by omega) hcell).mono ?_;rintro e w' ⟨rfl,rfl⟩;obtain⟨f1,f2,f3⟩:=xR (w:=w) (g:=g) (n:=s.length);exact xz hg hw hh0 hcs (by rintro rfl;rw[Nu]at k2;omega) hβ2 f1 f2 f3 (by simp only[VR];exact⟨_,rfl,rfl⟩)
end Go.Proofs.YtighgcgmocboaaaGreatDoor
