/- What the functions of the seat compute, part 1: the texts of the claim, one behind the other. Conditions: bounds, as each theorem names them. -/
import Derived.Test.YtmgjpakjlbofpaaGreatLc
import Derived.Test.YtmgjpakjlbofpaaGreatProg
import Derived.Tactics
import Derived.Tactics2
import Derived.Defers
import Derived.Recover
import Derived.Shelf.SlGeneric
import Derived.Ground.Names8Prog
import Derived.Ground.NamesProg
import Derived.Shelf.Spec.SlicesGrow
import Derived.Shelf.Strings.Search3
import Derived.RangeFuncNested
import Derived.RangeFuncBound
import Derived.RangeFuncCalls
import Derived.RangeFuncLeaves
import Derived.RangeFuncBox
import Derived.Shelf.Abstract
import Derived.Shelf.RegionOpen
import Derived.OwnWalkIn
import Derived.TacticsInMore
import Derived.LoopNIn
import Derived.LoopIn
set_option linter.defProp false
set_option linter.unusedSimpArgs false
set_option linter.unusedVariables false
namespace Go.Proofs.YtmgjpakjlbofpaaGreat
open Go Go.Av Go.Av.Ap
abbrev CC:=FuncId->List AV->M AV
abbrev RR:=List AV->M AV
def lb{α β:Type}{m:M α}{f:α->M β}{fs:Nat->α->M β}(hf:bz f fs):aL (ae m f) fun n=>ae m (fs n):=aL.bnd (aL.const _) hf
abbrev vN(l:List Nat):List (Nat×Option Nat):=l.map fun x=>(x,none)
abbrev tF:TI:=TI.mk false 1 8 .func [] [.nilf] false
noncomputable def tab:List (Nat×TI):=[
(0,(TI.mk false 1 0 .other [] [.any] false)),
(1,tF),
(2,(TI.mk false 1 8 (.int .i64) [] [.int .i64 0] false)),
(3,(TI.mk false 1 8 (.int .i64) [] [.int .i64 0] false)),
(4,(TI.mk false 1 1 .bool [] [.bool false] false)),
(5,(TI.mk false 1 1 (.int .u8) [] [.int .u8 0] false)),
(6,(TI.mk false 1 1 (.int .u8) [] [.int .u8 0] false)),
(7,(TI.mk true 4 24 .struct [(0,((2,true))),(1,((3,true))),(2,((4,true))),(3,((6,true)))] [.int .i64 0,.int .i64 0,.bool false,.int .u8 0] true)),
(8,(TI.mk true 4 24 .struct [(0,((2,true))),(1,((3,true))),(2,((4,true))),(3,((6,true)))] [.int .i64 0,.int .i64 0,.bool false,.int .u8 0] true)),
(9,(TI.mk false 1 16 .str [] [.str []] false)),
(10,(TI.mk false 1 16 .str [] [.str []] false)),
(11,(TI.mk false 1 16 .str [] [.str []] false)),
(12,(TI.mk false 1 8 (.int .u64) [] [.int .u64 0] false)),
(13,(TI.mk true 2 24 .struct [(0,((9,true))),(1,((12,true)))] [.str [],.int .u64 0] false)),
(14,(TI.mk true 2 24 .struct [(0,((9,true))),(1,((12,true)))] [.str [],.int .u64 0] false)),
(15,(TI.mk false 1 8 .ptr [] [.nilp] false)),
(16,(TI.mk false 1 8 .ptr [] [.nilp] false)),
(17,(TI.mk false 1 8 .ptr [] [.nilp] false)),
(18,(TI.mk true 1 8 .struct [(0,((17,true)))] [.nilp] false)),
(19,(TI.mk true 1 8 .struct [(0,((17,true)))] [.nilp] false)),
(20,(TI.mk false 1 16 .iface [] [.nili] false)),
(21,(TI.mk false 1 4 (.int .i32) [] [.int .i32 0] false)),
(22,(TI.mk false 1 24 (.slice 34) [] [.sl []] false)),
(23,(TI.mk false 1 24 (.slice 39) [] [.sl []] false)),
(24,(TI.mk false 1 24 (.slice 3) [] [.sl []] false)),
(25,tF),
(26,tF),
(27,(TI.mk false 1 24 (.slice 9) [] [.sl []] false)),
(28,(TI.mk false 1 24 (.slice 66) [] [.sl []] false)),
(29,(TI.mk false 1 24 (.slice 59) [] [.sl []] false)),
(30,(TI.mk false 1 24 (.slice 61) [] [.sl []] false)),
(31,(TI.mk true 3 72 .struct [(0,((28,true))),(1,((29,true))),(2,((29,true)))] [.sl [],.sl [],.sl []] true)),
(32,(TI.mk true 3 72 .struct [(0,((28,true))),(1,((29,true))),(2,((29,true)))] [.sl [],.sl [],.sl []] true)),
(33,(TI.mk true 9 192 .struct [(0,((9,true))),(1,((27,true))),(2,((28,true))),(3,((29,true))),(4,((30,true))),(5,((4,true))),(6,((32,true)))] [.str [],.sl [],.sl [],.sl [],.sl [],.bool false,.sl [],.sl [],.sl []] true)),
(34,(TI.mk true 9 192 .struct [(0,((9,true))),(1,((27,true))),(2,((28,true))),(3,((29,true))),(4,((30,true))),(5,((4,true))),(6,((32,true)))] [.str [],.sl [],.sl [],.sl [],.sl [],.bool false,.sl [],.sl [],.sl []] true)),
(35,(TI.mk false 1 24 (.slice 46) [] [.sl []] false)),
(36,tF),
(37,(TI.mk false 1 24 (.slice 42) [] [.sl []] false)),
(38,(TI.mk true 3 56 .struct [(0,((9,true))),(1,((9,true))),(2,((37,true)))] [.str [],.str [],.sl []] true)),
(39,(TI.mk true 3 56 .struct [(0,((9,true))),(1,((9,true))),(2,((37,true)))] [.str [],.str [],.sl []] true)),
(40,(TI.mk false 1 8 (.int .i64) [] [.int .i64 0] false)),
(41,(TI.mk true 4 64 .struct [(0,((3,true))),(1,((3,true))),(2,((27,true))),(3,((37,true)))] [.int .i64 0,.int .i64 0,.sl [],.sl []] true)),
(42,(TI.mk true 4 64 .struct [(0,((3,true))),(1,((3,true))),(2,((27,true))),(3,((37,true)))] [.int .i64 0,.int .i64 0,.sl [],.sl []] true)),
(43,(TI.mk false 1 24 (.slice 51) [] [.sl []] false)),
(44,(TI.mk false 1 24 (.slice 53) [] [.sl []] false)),
(45,(TI.mk true 8 144 .struct [(0,((40,true))),(1,((42,true))),(5,((43,true))),(6,((23,true))),(7,((44,true)))] [.int .i64 0,.int .i64 0,.int .i64 0,.sl [],.sl [],.sl [],.sl [],.sl []] true)),
(46,(TI.mk true 8 144 .struct [(0,((40,true))),(1,((42,true))),(5,((43,true))),(6,((23,true))),(7,((44,true)))] [.int .i64 0,.int .i64 0,.int .i64 0,.sl [],.sl [],.sl [],.sl [],.sl []] true)),
(47,tF),
(48,(TI.mk false 1 0 .other [] [.any] false)),
(49,tF),
(50,(TI.mk true 3 24 .struct [(0,((3,true))),(1,((3,true))),(2,((3,true)))] [.int .i64 0,.int .i64 0,.int .i64 0] true)),
(51,(TI.mk true 3 24 .struct [(0,((3,true))),(1,((3,true))),(2,((3,true)))] [.int .i64 0,.int .i64 0,.int .i64 0] true)),
(52,(TI.mk true 2 40 .struct [(0,((9,true))),(1,((37,true)))] [.str [],.sl []] true)),
(53,(TI.mk true 2 40 .struct [(0,((9,true))),(1,((37,true)))] [.str [],.sl []] true)),
(54,tF),
(55,tF),
(56,(TI.mk true 2 32 .struct [(0,((3,true))),(1,((28,true)))] [.int .i64 0,.sl []] true)),
(57,(TI.mk true 2 32 .struct [(0,((3,true))),(1,((28,true)))] [.int .i64 0,.sl []] true)),
(58,(TI.mk true 6 96 .struct [(0,((3,true))),(1,((3,true))),(2,((9,true))),(3,((9,true))),(4,((27,true))),(5,((29,true)))] [.int .i64 0,.int .i64 0,.str [],.str [],.sl [],.sl []] true)),
(59,(TI.mk true 6 96 .struct [(0,((3,true))),(1,((3,true))),(2,((9,true))),(3,((9,true))),(4,((27,true))),(5,((29,true)))] [.int .i64 0,.int .i64 0,.str [],.str [],.sl [],.sl []] true)),
(60,(TI.mk true 12 184 .struct [(0,((9,true))),(1,((4,true))),(2,((28,true))),(3,((57,true))),(5,((3,true))),(6,((59,true)))] [.str [],.bool false,.sl [],.int .i64 0,.sl [],.int .i64 0,.int .i64 0,.int .i64 0,.str [],.str [],.sl [],.sl []] true)),
(61,(TI.mk true 12 184 .struct [(0,((9,true))),(1,((4,true))),(2,((28,true))),(3,((57,true))),(5,((3,true))),(6,((59,true)))] [.str [],.bool false,.sl [],.int .i64 0,.sl [],.int .i64 0,.int .i64 0,.int .i64 0,.str [],.str [],.sl [],.sl []] true)),
(62,tF),
(63,(TI.mk false 1 0 .other [] [.any] false)),
(64,tF),
(65,(TI.mk true 3 48 .struct [(0,((9,true))),(1,((57,true)))] [.str [],.int .i64 0,.sl []] true)),
(66,(TI.mk true 3 48 .struct [(0,((9,true))),(1,((57,true)))] [.str [],.int .i64 0,.sl []] true)),
(67,tF),
(68,tF),
(69,tF),
(70,tF),
(71,tF),
(72,tF),
(73,(TI.mk false 1 0 .other [] [.any] false)),
(74,tF),
(75,tF),
(76,tF),
(77,(TI.mk false 1 24 (.slice 155) [] [.sl []] false)),
(78,(TI.mk false 1 0 .other [] [.any] false)),
(79,tF),
(80,(TI.mk false 1 0 .other [] [.any] false)),
(81,tF),
(82,tF),
(83,tF),
(84,tF),
(85,tF),
(86,tF),
(87,tF),
(88,tF),
(89,tF),
(90,tF),
(91,tF),
(92,tF),
(93,(TI.mk false 1 0 .other [] [.any] false)),
(94,tF),
(95,tF),
(96,(TI.mk false 1 8 .ptr [] [.nilp] false)),
(97,(TI.mk true 12 208 .struct [(0,((22,true))),(1,((24,true))),(2,((3,true))),(3,((3,true))),(4,((46,true)))] [.sl [],.sl [],.int .i64 0,.int .i64 0,.int .i64 0,.int .i64 0,.int .i64 0,.sl [],.sl [],.sl [],.sl [],.sl []] true)),
(98,(TI.mk true 12 208 .struct [(0,((22,true))),(1,((24,true))),(2,((3,true))),(3,((3,true))),(4,((46,true)))] [.sl [],.sl [],.int .i64 0,.int .i64 0,.int .i64 0,.int .i64 0,.int .i64 0,.sl [],.sl [],.sl [],.sl [],.sl []] true)),
(99,tF),
(100,(TI.mk false 1 0 .other [] [.any] false)),
(101,tF),
(102,tF),
(103,tF),
(104,tF),
(105,tF),
(106,tF),
(107,tF),
(108,tF),
(109,tF),
(110,tF),
(111,tF),
(112,tF),
(113,tF),
(114,tF),
(115,(TI.mk false 1 8 (.map 9 4) [] [.nilm] false)),
(116,tF),
(117,tF),
(118,tF),
(119,tF),
(120,tF),
(121,(TI.mk true 2 16 .struct [(0,((119,true))),(1,((120,true)))] [.nilf,.nilf] true)),
(122,(TI.mk true 2 16 .struct [(0,((119,true))),(1,((120,true)))] [.nilf,.nilf] true)),
(123,(TI.mk true 9 144 .struct [(0,((66,true))),(3,((59,true)))] [.str [],.int .i64 0,.sl [],.int .i64 0,.int .i64 0,.str [],.str [],.sl [],.sl []] true)),
(124,(TI.mk true 9 144 .struct [(0,((66,true))),(3,((59,true)))] [.str [],.int .i64 0,.sl [],.int .i64 0,.int .i64 0,.str [],.str [],.sl [],.sl []] true)),
(125,tF),
(126,tF),
(127,(TI.mk true 2 16 .struct [(0,((125,true))),(1,((126,true)))] [.nilf,.nilf] true)),
(128,(TI.mk true 2 16 .struct [(0,((125,true))),(1,((126,true)))] [.nilf,.nilf] true)),
(129,tF),
(130,(TI.mk true 2 16 .struct [(0,((129,true))),(1,((86,true)))] [.nilf,.nilf] true)),
(131,(TI.mk true 2 16 .struct [(0,((129,true))),(1,((86,true)))] [.nilf,.nilf] true)),
(132,tF),
(133,tF),
(134,(TI.mk true 2 16 .struct [(0,((132,true))),(1,((133,true)))] [.nilf,.nilf] true)),
(135,(TI.mk true 2 16 .struct [(0,((132,true))),(1,((133,true)))] [.nilf,.nilf] true)),
(136,(TI.mk false 1 0 .other [] [.any] false)),
(137,tF),
(138,(TI.mk false 1 24 (.slice 124) [] [.sl []] false)),
(139,(TI.mk false 1 0 .other [] [.any] false)),
(140,tF),
(141,tF),
(142,(TI.mk false 1 0 .other [] [.any] false)),
(143,tF),
(144,(TI.mk false 1 24 (.slice 32) [] [.sl []] false)),
(145,(TI.mk false 1 0 .other [] [.any] false)),
(146,tF),
(147,tF),
(148,(TI.mk false 1 0 .other [] [.any] false)),
(149,tF),
(150,(TI.mk false 1 8 .ptr [] [.nilp] false)),
(151,(TI.mk false 1 0 .other [] [.any] false)),
(152,tF),
(153,(TI.mk false 1 24 (.slice 195) [] [.sl []] false)),
(154,(TI.mk true 2 40 .struct [(0,((9,true))),(1,((153,true)))] [.str [],.sl []] true)),
(155,(TI.mk true 2 40 .struct [(0,((9,true))),(1,((153,true)))] [.str [],.sl []] true)),
(156,(TI.mk false 1 0 .other [] [.any] false)),
(157,(TI.mk false 1 8 (.map 9 155) [] [.nilm] false)),
(158,(TI.mk true 11 208 .struct [(0,((34,true))),(9,((157,true))),(10,((3,true)))] [.str [],.sl [],.sl [],.sl [],.sl [],.bool false,.sl [],.sl [],.sl [],.nilm,.int .i64 0] true)),
(159,(TI.mk true 11 208 .struct [(0,((34,true))),(9,((157,true))),(10,((3,true)))] [.str [],.sl [],.sl [],.sl [],.sl [],.bool false,.sl [],.sl [],.sl [],.nilm,.int .i64 0] true)),
(160,tF),
(161,(TI.mk false 1 0 .other [] [.any] false)),
(162,tF),
(163,tF),
(164,tF),
(165,(TI.mk true 3 56 .struct [(0,((3,true))),(1,((27,true))),(2,((37,true)))] [.int .i64 0,.sl [],.sl []] true)),
(166,(TI.mk true 3 56 .struct [(0,((3,true))),(1,((27,true))),(2,((37,true)))] [.int .i64 0,.sl [],.sl []] true)),
(167,tF),
(168,tF),
(169,tF),
(170,tF),
(171,tF),
(172,tF),
(173,tF),
(174,tF),
(175,tF),
(176,tF),
(177,tF),
(178,tF),
(179,tF),
(180,tF),
(181,tF),
(182,tF),
(183,tF),
(184,tF),
(185,tF),
(186,tF),
(187,tF),
(188,tF),
(189,tF),
(190,tF),
(191,tF),
(192,tF),
(193,(TI.mk false 1 24 (.slice 57) [] [.sl []] false)),
(194,(TI.mk true 5 80 .struct [(0,((9,true))),(1,((193,true))),(2,((57,true))),(4,((3,true)))] [.str [],.sl [],.int .i64 0,.sl [],.int .i64 0] true)),
(195,(TI.mk true 5 80 .struct [(0,((9,true))),(1,((193,true))),(2,((57,true))),(4,((3,true)))] [.str [],.sl [],.int .i64 0,.sl [],.int .i64 0] true)),
(196,tF),
(197,tF),
(198,(TI.mk false 1 0 .other [] [.any] false)),
(199,tF),
(200,tF),
(201,(TI.mk false 1 0 .other [] [.any] false)),
(202,tF),
(203,tF),
(204,tF),
(205,tF),
(206,tF),
(207,tF),
(208,tF),
(209,tF),
(210,tF),
(211,tF),
(212,tF),
(213,tF),
(214,tF),
(215,tF),
(216,tF),
(217,(TI.mk false 1 0 .other [] [.any] false)),
(218,tF),
(219,(TI.mk false 1 24 (.slice 27) [] [.sl []] false)),
(220,tF),
(221,tF),
(222,(TI.mk false 1 24 (.slice 138) [] [.sl []] false)),
(223,tF),
(224,(TI.mk false 1 24 (.slice 30) [] [.sl []] false)),
(225,tF),
(226,(TI.mk false 1 24 (.slice 144) [] [.sl []] false)),
(227,tF),
(228,tF),
(229,tF),
(230,tF),
(231,tF),
(232,tF),
(233,tF),
(234,(TI.mk false 1 0 .other [] [.any] false)),
(235,tF),
(236,tF),
(237,tF),
(238,tF),
(239,tF),
(240,tF),
(241,tF),
(242,tF),
(243,tF),
(244,(TI.mk false 1 8 (.int .u64) [] [.int .u64 0] false)),
(245,(TI.mk false 1 4 (.int .u32) [] [.int .u32 0] false)),
(246,(TI.mk false 1 0 .other [] [.any] false)),
(247,tF),
(248,tF),
(249,(TI.mk true 4 40 .struct [(0,((17,true))),(1,((17,true))),(2,((17,true))),(3,((9,true)))] [.nilp,.nilp,.nilp,.str []] false)),
(250,(TI.mk true 4 40 .struct [(0,((17,true))),(1,((17,true))),(2,((17,true))),(3,((9,true)))] [.nilp,.nilp,.nilp,.str []] false)),
(251,(TI.mk true 0 0 (.array 0 16) [] [] false)),
(252,(TI.mk true 0 0 .struct [(0,((251,false)))] [] false)),
(253,(TI.mk true 0 0 .struct [(0,((251,false)))] [] false)),
(254,tF),
(255,(TI.mk false 1 1 (.int .u8) [] [.int .u8 0] false)),
(256,(TI.mk false 1 1 (.int .u8) [] [.int .u8 0] false)),
(257,tF),
(258,(TI.mk false 1 8 .ptr [] [.nilp] false)),
(259,(TI.mk false 1 4 (.int .i32) [] [.int .i32 0] false)),
(260,(TI.mk false 1 4 (.int .i32) [] [.int .i32 0] false)),
(261,(TI.mk true 11 48 .struct [(0,((12,true))),(1,((12,true))),(2,((245,true))),(3,((255,true))),(4,((5,true))),(5,((5,true))),(6,((256,true))),(7,((257,true))),(8,((258,true))),(9,((259,true))),(10,((260,true)))] [.int .u64 0,.int .u64 0,.int .u32 0,.int .u8 0,.int .u8 0,.int .u8 0,.int .u8 0,.nilf,.nilp,.int .i32 0,.int .i32 0] false)),
(262,(TI.mk true 11 48 .struct [(0,((12,true))),(1,((12,true))),(2,((245,true))),(3,((255,true))),(4,((5,true))),(5,((5,true))),(6,((256,true))),(7,((257,true))),(8,((258,true))),(9,((259,true))),(10,((260,true)))] [.int .u64 0,.int .u64 0,.int .u32 0,.int .u8 0,.int .u8 0,.int .u8 0,.int .u8 0,.nilf,.nilp,.int .i32 0,.int .i32 0] false)),
(263,(TI.mk false 1 8 .other [] [.nilp] false))]
def vH:List (Nat×TI)->Nat->Option TI
 |[],_=>none
 |(k,x):: r,t=>bif Nat.beq k t then some x else vH r t
noncomputable def T:TT:=vH tab
def Gt:Ann:={hl:=[129,130,144,157,171,187],ha:=[84],hb:=[13],no:=[83,132,174,190],nl:=[46,60,70,75,80,129,144,157,171,187],joins:=[(1000004,{vals:=vN [0,1,2,11,13,17,18,19]})],loops:=[(0,{vals:=vN [0,1,2,3,4,11,12]}),(2,{vals:=vN [0,1,2,3,4,11,13,14]})]}
def D6:Ann:={kinds:=[(1,.S),(2,.H),(3,.S),(6,.S),(9,.S),(12,.S),(15,.S),(18,.S),(19,.S),(20,.S),(21,.H),(22,.H),(23,.S)],hl:=[95,128,129],hb:=[2,21,22,32,115],no:=[29,38,42,51,56,66,70,79,83,92,96,107,110,114,120,124,144,152],nl:=[35,49,63,77,90,95,105,106,109,113,117,118,119,122,123,127,128,129,141,149],lw:=[1,3,6,9,12,15,18,19,20,23]}
def Gw:Ann:={nl:=[6,16,20,25,29,35,39,44,49,55,60,66,72,78],loops:=[(0,{vals:=vN [1,3]})]}
def GF:Ann:={nl:=[20,28],loops:=[(0,{vals:=vN [0,1,5]})]}
def GQ:Ann:={lw:=[12]}
def GZ:Ann:={iso:=false,kinds:=[(11,.S)],hl:=[36],nl:=[18,26,28,30,36],lw:=[11],loops:=[(0,{vals:=vN [0,1,2,3,12,13,14]})]}
def Jj:Ann:={lw:=[2]}
def Gi:Ann:={lw:=[4]}
def xU:Ann:={kinds:=[(11,.S)],nl:=[16,20,25,31,33,38,40,45,46,47,58,63,73],lw:=[8,11]}
def Gj:Ann:={nl:=[9,11,15,17,22,24,29,31,35,37,42,45,51,54,64,67,72,74]}
def BU:Ann:={nl:=[18],loops:=[(0,{vals:=vN [0,3]})]}
def BV:Ann:={nl:=[3]}
def BW:Ann:={nl:=[3]}
def BX:Ann:={nl:=[17],loops:=[(0,{vals:=vN [0,3]})]}
def BZ:Ann:={nl:=[9,21,24],loops:=[(0,{vals:=vN [1,2,5,6]})]}
def B1:Ann:={kinds:=[(7,.S),(10,.S),(11,.S)],hb:=[8,26],no:=[52,58],nl:=[23,25,28,31,35,40,42,51],lw:=[7,8,10,11,54],loops:=[(0,{vals:=[(5,some 2),(18,none),(19,none),(20,none)]}),(2,{vals:=[(5,some 2),(18,none),(19,none),(20,none),(35,none),(36,none),(37,none),(9000,none),(9001,some 4)],locs:=[(8,9000,0)],lbs:=[(9000,2)]})],nils:=[(8,[1])]}
def B2:Ann:={kinds:=[(16,.S),(17,.S),(18,.S),(21,.S),(45,.H)],hl:=[81,110],ha:=[89],hb:=[44],no:=[88],nl:=[46,50,51,59,62,66,75,76,77,81,83,85,95,96,107,110],lw:=[14,16,17,18,21],loops:=[(0,{vals:=vN [11,16,17,18,70,71,72,15000,15001,15002,15003,15004,15005,15006,15007],locs:=[(14,15000,0)],lbs:=[(15000,8)]})]}
def B3:Ann:={nl:=[8,10,13,15,18,20,24,26,31,33]}
def Gk:Ann:={kinds:=[(8,.S)],nl:=[13,18,32,37,40,44,50,56,62,68,74,77,82,88,94,100,102,109,112,115,121,126,133],lw:=[8],joins:=[(116,{vals:=vN [1,9,10]})],loops:=[(0,{vals:=vN [1,3,13,14,15]}),(2,{vals:=vN [1,6,32,33,34]})]}
def Gl:Ann:={kinds:=[(10,.S),(11,.S),(12,.S),(13,.S),(18,.S),(24,.S)],hb:=[9,27],no:=[75,81,162,168],nl:=[26,33,35,37,39,50,51,53,55,70,74,80,87,89,91,93,104,105,107,109,125,128,130,133,136,139,157,161,167],lw:=[6,9,10,11,12,13,18,20,24,44,83,84,98,126,127,150,151,170,171],joins:=[(138,{vals:=[(16,none),(7000,none),(7001,none),(7002,none),(7003,none),(7004,none),(7005,none),(7006,none),(7007,none),(7008,none),(10000,none),(10001,none),(10002,some 3),(10003,some 6),(10004,none),(10005,none),(10006,none),(10007,none),(10008,none),(21000,none),(21001,none),(21002,none),(21003,none),(21004,none),(21005,none),(21006,none),(21007,none),(21008,none)],locs:=[(6,7000,0),(9,10000,0),(20,21000,0)],lbs:=[(7000,9),(10000,9),(21000,9)]})],loops:=[(0,{vals:=[(3,none),(4,none),(5,none),(12,none),(13,none),(16,none),(65,none),(66,none),(67,none),(7000,none),(7001,none),(7002,none),(7003,none),(7004,none),(7005,none),(7006,none),(7007,none),(7008,none),(10000,none),(10001,none),(10002,some 3),(10003,some 6),(10004,none),(10005,none),(10006,none),(10007,none),(10008,none)],locs:=[(6,7000,0),(9,10000,0)],lbs:=[(7000,9),(10000,9)]}),(2,{vals:=[(152,none),(153,none),(154,none),(7000,none),(7001,none),(7002,none),(7003,none),(7004,none),(7005,none),(7006,none),(7007,none),(7008,none),(10000,none),(10001,none),(10002,some 3),(10003,some 6),(10004,none),(10005,none),(10006,none),(10007,none),(10008,none)],locs:=[(6,7000,0),(9,10000,0)],lbs:=[(7000,9),(10000,9)]})],nils:=[(9,[2,3])]}
def Gm:Ann:={kinds:=[(10,.S),(15,.S),(16,.S)],hl:=[42,103],nl:=[19,27,32,37,42,52,58,67,72,79,81,89,92,94,98,103,105,109],lw:=[10,15,16],loops:=[(0,{vals:=vN [2,6,32,33,34]}),(2,{vals:=vN [6,67,68,69]})]}
def Gn:Ann:={nl:=[7,9,13,15,20,22,28,30,35,37,42,44]}
def Gp:Ann:={kinds:=[(8,.S),(9,.S)],nl:=[21,25,27,28],lw:=[8,9],loops:=[(0,{vals:=vN [1,2,15,16,17]})]}
def Gq:Ann:={nl:=[6,8,12,14]}
def Gr:Ann:={nl:=[6,8,12,14]}
def Gs:Ann:={nl:=[6,8,12,14,19,21,26,28,33,35,40,42]}
def B4:Ann:={nl:=[19,23],loops:=[(0,{vals:=vN [0,1,12,13]})]}
def Gu:Ann:={kinds:=[(8,.S),(9,.S)],nl:=[21,25,27,28],lw:=[8,9],loops:=[(0,{vals:=vN [1,2,15,16,17]})]}
def Gv:Ann:={kinds:=[(8,.S),(9,.S)],nl:=[21,25,27,28],lw:=[8,9],loops:=[(0,{vals:=vN [1,2,15,16,17]})]}
def B5:Ann:={nl:=[15,27,31],loops:=[(0,{vals:=vN [1,2,3,7,8]})]}
def B6:Ann:={nl:=[13,21,33,36],loops:=[(0,{vals:=vN [1,2,3,7,8]})]}
def B7:Ann:={kinds:=[(4,.S)],nl:=[14],lw:=[4],loops:=[(0,{vals:=vN [0,8,9,10]})]}
def B8:Ann:={kinds:=[(8,.S),(20,.H)],hb:=[19],nl:=[9,11,15],lw:=[6,8]}
def B9:Ann:={}
def Ca:Ann:={iso:=false,hl:=[8],nl:=[8]}
def Cb:Ann:={iso:=false,hl:=[16],nl:=[16,20,30],lw:=[6]}
def Cc:Ann:={}
def Cd:Ann:={nl:=[3]}
def Ce:Ann:={nl:=[3]}
def vg:Ann:={iso:=false,ha:=[7]}
def Cf:Ann:={iso:=false,nl:=[5,6,7,8],lw:=[4]}
def Cg:Ann:={iso:=false,kinds:=[(11,.S),(12,.S)],hl:=[16,26,30,67,79],ha:=[41],no:=[40],nl:=[16,20,26,30,34,36,48,54,57,61,67,74,79,83],lw:=[8,9,11,12],joins:=[(20,{vals:=vN [0,1,3,6,9000,9001,9002,9003],locs:=[(8,9000,0)],lbs:=[(9000,4)]})],loops:=[(0,{vals:=vN [0,3,6,48,49,50,9000,9001,9002,9003,10000,10001,10002],locs:=[(8,9000,0),(9,10000,0)],lbs:=[(9000,4),(10000,3)]})]}
def Ch:Ann:={kinds:=[(8,.S),(9,.S)],nl:=[21,25,27,28],lw:=[8,9],loops:=[(0,{vals:=vN [1,2,15,16,17]})]}
def Ci:Ann:={nl:=[6,8,12,14,19,21]}
def Cj:Ann:={kinds:=[(8,.S),(9,.S)],nl:=[21,25,27,28],lw:=[8,9],loops:=[(0,{vals:=vN [1,2,15,16,17]})]}
def Ck:Ann:={nl:=[6,8,12,14,19,21,26,28]}
def Cl:Ann:={kinds:=[(8,.S),(9,.S)],nl:=[21,25,27,28],lw:=[8,9],loops:=[(0,{vals:=vN [1,2,15,16,17]})]}
def Cm:Ann:={nl:=[6,8,12,14]}
def Cn:Ann:={nl:=[19,23],loops:=[(0,{vals:=vN [0,1,12,13]})]}
def Gx:Ann:={}
def Gy:Ann:={kinds:=[(7,.S)],nl:=[14,17,21,27,33],lw:=[7],loops:=[(0,{vals:=vN [0,1,5,9,10,11]})]}
def Gz:Ann:={nl:=[3]}
def GA:Ann:={nl:=[3]}
def GC:Ann:={kinds:=[(6,.S)],nl:=[12,13],lw:=[6],loops:=[(0,{vals:=vN [0,1,7,8,9]})]}
def GD:Ann:={}
def GE:Ann:={}
def GG:Ann:={nl:=[5]}
def GH:Ann:={nl:=[7,10,14,16]}
def GI:Ann:={nl:=[4]}
def GJ:Ann:={nl:=[6,8,12,14,19,21,26,28,33,35,40,42]}
def GK:Ann:={}
def GL:Ann:={nl:=[6,8,12,14,19,21]}
def GM:Ann:={no:=[22,38],nl:=[28,30,40,44,48,57,66,71],joins:=[(62,{vals:=[(1,none),(2,none),(3,none),(4,none),(11,some 1),(12,some 1),(15,none),(17,none),(23,none),(24,none),(25,none),(62,none)]})],loops:=[(0,{vals:=[(1,none),(2,none),(3,none),(4,none),(11,some 1),(12,some 1),(23,none),(24,none),(25,none)]})]}
def GN:Ann:={kinds:=[(14,.S)],no:=[22,38],nl:=[28,30,31,40,44,48,57,66,71],lw:=[14],joins:=[(62,{vals:=[(1,none),(2,none),(3,none),(4,none),(11,some 9),(12,some 1),(15,none),(17,none),(23,none),(24,none),(25,none),(62,none)]})],loops:=[(0,{vals:=[(1,none),(2,none),(3,none),(4,none),(11,some 9),(12,some 1),(23,none),(24,none),(25,none)]})]}
def GO:Ann:={kinds:=[(5,.S)],no:=[22],nl:=[7,13,15,17,20],lw:=[5],loops:=[(0,{vals:=[(1,none),(3,some 9),(7,none),(8,none),(9,none)]})]}
def GP:Ann:={kinds:=[(14,.S)],no:=[22,38],nl:=[28,30,31,40,44,48,57,66,71],lw:=[14],joins:=[(62,{vals:=[(1,none),(2,none),(3,none),(4,none),(11,some 12),(12,some 1),(15,none),(17,none),(23,none),(24,none),(25,none),(62,none)]})],loops:=[(0,{vals:=[(1,none),(2,none),(3,none),(4,none),(11,some 12),(12,some 1),(23,none),(24,none),(25,none)]})]}
def GR:Ann:={kinds:=[(14,.S)],no:=[22,38],nl:=[28,30,31,40,44,48,57,66,71],lw:=[14],joins:=[(62,{vals:=[(1,none),(2,none),(3,none),(4,none),(11,some 3),(12,some 1),(15,none),(17,none),(23,none),(24,none),(25,none),(62,none)]})],loops:=[(0,{vals:=[(1,none),(2,none),(3,none),(4,none),(11,some 3),(12,some 1),(23,none),(24,none),(25,none)]})]}
def GT:Ann:={no:=[8],nl:=[4,7]}
def GU:Ann:={kinds:=[(8,.S)],no:=[26],nl:=[15,25],lw:=[8],loops:=[(0,{vals:=[(0,none),(6,some 9),(10,none),(11,none),(12,none)]})]}
def GV:Ann:={iso:=false,kinds:=[(8,.S),(10,.S),(11,.S),(16,.H)],hl:=[44,55],hb:=[15],nl:=[13,22,24,29,31,36,44,46,55,57,58],lw:=[8,10,11],loops:=[(0,{vals:=vN [6,17,18,19]}),(2,{vals:=vN [6,8,17,18,19,24,25,26]})]}
def GW:Ann:={kinds:=[(5,.S),(8,.S),(11,.S)],nl:=[14,20,22,24,27,29,34,38,41,47,49,52,55,58,60,65,70,76,78,80,83,86,88,93],lw:=[5,8,11],loops:=[(0,{vals:=vN [1,14,15,16]}),(2,{vals:=vN [1,41,42,43]}),(4,{vals:=vN [1,70,71,72]})]}
def GX:Ann:={iso:=false,kinds:=[(8,.S),(10,.S)],hl:=[95],no:=[51],nl:=[15,21,26,34,36,48,49,54,56,65,73,81,90,95,97,101],lw:=[6,8,10],joins:=[(60,{vals:=vN [0,1,5,15,60,7000,7001],locs:=[(6,7000,0)],lbs:=[(7000,2)]}),(91,{vals:=vN [5,12,7000,7001],locs:=[(6,7000,0)],lbs:=[(7000,2)]})],ords:=[(11,[0,1,3,4,5,6,7,9,10,11,12,2,8,13,14,15,16,17])]}
def GY:Ann:={nl:=[6,8,12]}
def Co:Ann:={}
def Cp:Ann:={nl:=[5,7]}
def Cq:Ann:={nl:=[3]}
def Cr:Ann:={iso:=false,nl:=[5,6,7,9],lw:=[4]}
def Cs:Ann:={iso:=false,kinds:=[(9,.S)],hl:=[14,20],nl:=[14,20,25,35,42,46,51,55,60,66,74,77,79,82,85,94,96,98,100,103,105,107,114,116,118,121,125,129,131,133,139,141,143,150,152,154,157,159,161,164,166,168,173,175,177,179,181,185,187,192,193,198,200,202,205,207,210,218,221,225,226,229,230],lw:=[6,9],joins:=[(87,{vals:=vN [0,4,5,42,87,7000,7001,7002,7003],locs:=[(6,7000,0)],lbs:=[(7000,4)]}),(110,{vals:=vN [0,4,5,42,110,7000,7001,7002,7003],locs:=[(6,7000,0)],lbs:=[(7000,4)]}),(1000000,{vals:=vN [0,4,5,7000,7001,7002,7003],locs:=[(6,7000,0)],lbs:=[(7000,4)]})],loops:=[(1,{vals:=vN [0,4,5,8,7000,7001,7002,7003],locs:=[(6,7000,0)],lbs:=[(7000,4)]})],ords:=[(23,[0,1,2,3,4,5,6,7,9,10,11,12,13,14,8,15,16,17]),(26,[0,1,2,3,4,5,7,8,9,6,10]),(36,[0,1,2,3,4,5,6,7,8,9,12,13,14,15,10,11,16,17]),(40,[0,1,2,3,4,5,7,6,8])]}
def Ct:Ann:={kinds:=[(8,.S),(9,.S)],nl:=[21,25,27,28],lw:=[8,9],loops:=[(0,{vals:=vN [1,2,15,16,17]})]}
def Cu:Ann:={nl:=[6,8,12,15,21]}
def Cv:Ann:={nl:=[3]}
def Cw:Ann:={nl:=[15],loops:=[(0,{vals:=vN [0,1,7,8]})]}
def Cy:Ann:={nl:=[5,6]}
def Cz:Ann:={nl:=[15],loops:=[(0,{vals:=vN [0,1,7,8]})]}
def CB:Ann:={nl:=[5,6]}
def CE:Ann:={nl:=[15],loops:=[(0,{vals:=vN [0,1,7,8]})]}
def CF:Ann:={nl:=[5,8,12,16,21,27,31,36,41,45,50,53,59,65,70]}
def CG:Ann:={}
def CH:Ann:={no:=[13,19],nl:=[8,10,16,18],lw:=[6]}
def G0:Ann:={}
def G4:Ann:={kinds:=[(6,.S)],nl:=[11,16,21,27,31,37,43,45,53,55,60,66],lw:=[6],loops:=[(0,{vals:=vN [1,2,37,38,39]})]}
def G5:Ann:={kinds:=[(5,.S),(8,.S)],nl:=[13,18,22,31,37,39,44,46,51,53,58,61,66,71,76,77],lw:=[5,8],loops:=[(0,{vals:=vN [1,71,72,73]})]}
def G6:Ann:={}
def G7:Ann:={hb:=[24],nl:=[14,30],loops:=[(0,{vals:=vN [0,3,9,10,11]}),(2,{vals:=[(6,some 1),(25,none),(26,none),(27,none)]})]}
def De:Ann:={}
def Df:Ann:={}
def Dg:Ann:={nl:=[21,25],loops:=[(0,{vals:=vN [1,2,15,16,17]})]}
def Dh:Ann:={hb:=[24],nl:=[14,30],loops:=[(0,{vals:=vN [0,3,9,10,11]}),(2,{vals:=[(6,some 9),(25,none),(26,none),(27,none)]})]}
def Di:Ann:={}
def Dj:Ann:={kinds:=[(8,.S),(9,.S)],nl:=[21,25,27,28],lw:=[8,9],loops:=[(0,{vals:=vN [1,2,15,16,17]})]}
def Dk:Ann:={hb:=[24],nl:=[14,30],loops:=[(0,{vals:=vN [0,3,9,10,11]}),(2,{vals:=[(6,some 12),(25,none),(26,none),(27,none)]})]}
def Dl:Ann:={}
def Dm:Ann:={hb:=[24],nl:=[14,30],loops:=[(0,{vals:=vN [0,3,9,10,11]}),(2,{vals:=[(6,some 3),(25,none),(26,none),(27,none)]})]}
def Dn:Ann:={}
def Do:Ann:={kinds:=[(8,.S),(9,.S)],nl:=[21,25,27,28],lw:=[8,9],loops:=[(0,{vals:=vN [1,2,15,16,17]})]}
def Dp:Ann:={nl:=[15],loops:=[(0,{vals:=vN [0,1,7,8]})]}
def Dq:Ann:={nl:=[6,8]}
def Ds:Ann:={nl:=[3]}
def Dt:Ann:={}
def Du:Ann:={nl:=[3]}
def Dv:Ann:={kinds:=[(10,.S),(15,.H)],hl:=[31],hb:=[14],nl:=[19,31,34,35],lw:=[10]}
def qg:Ann:={}
def Dw:Ann:={iso:=false,kinds:=[(8,.S),(10,.S)],hl:=[17],nl:=[17,19,27,33,35,45,46,50],lw:=[6,8,10],joins:=[(28,{vals:=vN [8,7000,7001],locs:=[(6,7000,0)],lbs:=[(7000,2)]})],ords:=[(1,[0,1,2,3,4,5,6,11,7,8,9,10,12,13])]}
def Dx:Ann:={iso:=false,kinds:=[(8,.S),(13,.S)],hl:=[63],nl:=[16,24,27,35,49,50,52,55,63,65,70],lw:=[6,8,13],loops:=[(0,{vals:=vN [0,8,43,44,45,7000,7001],locs:=[(6,7000,0)],lbs:=[(7000,2)]})]}
def Dy:Ann:={iso:=false,kinds:=[(10,.S),(11,.S)],no:=[31],nl:=[18,22,30],lw:=[10,11],loops:=[(0,{vals:=[(0,none),(1,none),(8,some 2),(13,none),(14,none),(15,none)]})]}
def Dz:Ann:={kinds:=[(7,.H),(10,.S)],hl:=[77,104],ha:=[86],hb:=[7,12],no:=[85],nl:=[14,49,51,52,54,60,63,69,75,77,79,82,83,92,95,97,104],lw:=[4,10],joins:=[(15,{vals:=vN [2,3,6,7,8,14,15,5000,5001],locs:=[(4,5000,0)],lbs:=[(5000,2)]}),(39,{vals:=vN [2,3,6,7,8,14,39,5000,5001],locs:=[(4,5000,0)],lbs:=[(5000,2)]}),(1000000,{vals:=vN [7,8,5000,5001],locs:=[(4,5000,0)],lbs:=[(5000,2)]})],loops:=[(1,{vals:=vN [2,7,8,69,70,71,5000,5001],locs:=[(4,5000,0)],lbs:=[(5000,2)]})]}
def DC:Ann:={}
def DD:Ann:={kinds:=[(4,.S)],nl:=[8,10,17,19],lw:=[4]}
def xV:Ann:={joins:=[(4,{vals:=vN [3,4]}),(9,{vals:=vN [3,9]}),(14,{vals:=vN [3,14]}),(25,{vals:=[(25,none)]})]}
def xW:Ann:={lw:=[2]}
def xX:Ann:={lw:=[2]}
def xY:Ann:={iso:=false,nl:=[10,12,16,21,23,27,31,39,41,47,49,55,57,61,63],lw:=[6]}
def xZ:Ann:={iso:=false,kinds:=[(7,.S)],nl:=[9,10,13,17],lw:=[7]}
def ya:Ann:={iso:=false,kinds:=[(9,.S)],hb:=[7,31],no:=[45],nl:=[11,14,19,24,29,33,38,42,43],lw:=[6,7,9,47],loops:=[(0,{vals:=[(0,none),(4,none),(33,none),(34,none),(35,none),(7000,none),(7001,none),(7002,none),(7003,none),(8000,none),(8001,none),(8002,none),(8003,some 4)],locs:=[(6,7000,0),(7,8000,0)],lbs:=[(7000,4),(8000,4)]})],nils:=[(7,[3])]}
def yb:Ann:={nl:=[15],loops:=[(0,{vals:=vN [0,1,7,8]})]}
def yc:Ann:={iso:=false,kinds:=[(8,.S),(12,.S)],no:=[61],nl:=[14,16,20,26,33,37,42,45,50,55,58,59,66],lw:=[6,8,12],joins:=[(17,{vals:=vN [0,4,5,7,7000,7001,7002,7003],locs:=[(6,7000,0)],lbs:=[(7000,4)]})],loops:=[(0,{vals:=[(0,none),(4,none),(7,none),(8,none),(10,some 4),(50,none),(51,none),(52,none),(7000,none),(7001,none),(7002,none),(7003,none)],locs:=[(6,7000,0)],lbs:=[(7000,4)]})]}
def yd:Ann:={iso:=false,kinds:=[(7,.S)],hl:=[47,54,60,69,90,105,110,127],ha:=[77],no:=[76],nl:=[12,15,17,19,22,26,30,35,40,47,54,56,60,69,71,73,84,90,92,95,105,107,110,112,117,119,121,127],lw:=[6,7],joins:=[(49,{vals:=vN [0,5,7,8,7000,7001,7002,7003],locs:=[(6,7000,0)],lbs:=[(7000,4)]}),(113,{vals:=vN [9,10,7000,7001,7002,7003],locs:=[(6,7000,0)],lbs:=[(7000,4)]})],ords:=[(2,[0,1,2,3,4,5,7,6,8])]}
def ye:Ann:={nl:=[14,18],loops:=[(0,{vals:=vN [0,3]})]}
def yf:Ann:={nl:=[4,5]}
def yg:Ann:={}
def yh:Ann:={}
def DF:Ann:={}
def DG:Ann:={loops:=[(0,{vals:=vN [0,1,5]})]}
def DI:Ann:={}
def DJ:Ann:={}
def DK:Ann:={nl:=[6,8,11,16,23,30,36,45,54,58,63,65],lw:=[2,4,17,24,31,37,46,55,66,67],joins:=[(12,{vals:=vN [1,11,12,3000,3001,3002,3003,3004,3005,5000,5001,5002,5003,5004,5005],locs:=[(2,3000,0),(4,5000,0)],lbs:=[(3000,6),(5000,6)]}),(19,{vals:=vN [1,11,19,3000,3001,3002,3003,3004,3005,5000,5001,5002,5003,5004,5005],locs:=[(2,3000,0),(4,5000,0)],lbs:=[(3000,6),(5000,6)]}),(26,{vals:=vN [1,11,26,3000,3001,3002,3003,3004,3005,5000,5001,5002,5003,5004,5005],locs:=[(2,3000,0),(4,5000,0)],lbs:=[(3000,6),(5000,6)]})]}
def DL:Ann:={nl:=[6,10,14,20,24,30,34,39,44,54,59,63,67,73,80,86,96,100,106],joins:=[(47,{vals:=vN [1,6,47]})],loops:=[(1,{vals:=vN [1,80,81,82]})]}
def DN:Ann:={nl:=[6,8,12,14]}
def DO:Ann:={nl:=[15],loops:=[(0,{vals:=vN [0,1,7,8]})]}
def DR:Ann:={nl:=[6,9],ords:=[(1,[0,1,2,4,3,5,6])]}
def DT:Ann:={nl:=[6,7,9],ords:=[(1,[0,1,2,4,3,5,6])]}
def DU:Ann:={nl:=[6,7,9],ords:=[(1,[0,1,2,4,3,5,6])]}
def DV:Ann:={nl:=[15],loops:=[(0,{vals:=vN [0,1,7,8]})]}
def DW:Ann:={nl:=[6,7,9],ords:=[(1,[0,1,2,4,3,5,6])]}
def DX:Ann:={nl:=[15],loops:=[(0,{vals:=vN [0,1,7,8]})]}
def DY:Ann:={iso:=false,kinds:=[(7,.S),(10,.S),(11,.S)],hl:=[21,31,60,81],hb:=[8,39],no:=[51],nl:=[15,21,31,34,36,38,41,46,50,60,62,67,81,83,89,92],lw:=[4,7,8,10,11,53],loops:=[(0,{vals:=[(41,none),(42,none),(43,none),(5000,none),(5001,none),(5002,none),(5003,none),(5004,none),(9000,none),(9001,some 2),(9002,none),(9003,none),(9004,none)],locs:=[(4,5000,0),(8,9000,0)],lbs:=[(5000,5),(9000,5)]})],nils:=[(8,[1])]}
def DZ:Ann:={nl:=[4]}
def D1:Ann:={nl:=[5,6]}
def D2:Ann:={kinds:=[(8,.S),(9,.S),(11,.S)],hb:=[6,21],no:=[52],nl:=[14,16,20,23,28,31,33,40,41,49,50],lw:=[4,6,8,9,11,54],loops:=[(0,{vals:=[(3,none),(23,none),(24,none),(25,none),(5000,none),(5001,none),(7000,none),(7001,some 3)],locs:=[(4,5000,0),(6,7000,0)],lbs:=[(5000,2),(7000,2)]})],nils:=[(6,[1])]}
def yj:Ann:={nl:=[15],loops:=[(0,{vals:=vN [0,1,7,8]})]}
def qh:Ann:={}
def yk:Ann:={kinds:=[(5,.S)],nl:=[7,12,14],lw:=[5],loops:=[(0,{vals:=vN [3,7,8,9]})]}
def yl:Ann:={nl:=[5,7]}
def D3:Ann:={nl:=[5,7]}
def D4:Ann:={nl:=[15],loops:=[(0,{vals:=vN [0,1,7,8]})]}
def D5:Ann:={nl:=[5,7]}
noncomputable def xL:List (Nat×(Func×Ann)):=[
(3,(Tryz.f3,Gt)),
(4,(Tryz.f4,D6)),
(5,(Tryz.f5,Gw)),
(6,(Tryz.f6,GF)),
(7,(Tryz.f7,GQ)),
(8,(Tryz.f8,GZ)),
(9,(Tryz.f9,Jj)),
(10,(Tryz.f10,Gi)),
(11,(Tryz.f11,xU)),
(12,(Tryz.f12,Gj)),
(13,(Tryz.f13,BU)),
(14,(Tryz.f14,BV)),
(15,(Tryz.f15,BW)),
(16,(Tryz.f16,BX)),
(17,(Tryz.f17,BZ)),
(18,(Tryz.f18,B1)),
(19,(Tryz.f19,B2)),
(20,(Tryz.f20,B3)),
(21,(Tryz.f21,Gk)),
(22,(Tryz.f22,Gl)),
(23,(Tryz.f23,Gm)),
(24,(Tryz.f24,Gn)),
(25,(Tryz.f25,Gp)),
(26,(Tryz.f26,Gq)),
(27,(Tryz.f27,Gr)),
(28,(Tryz.f28,Gs)),
(29,(Tryz.f29,B4)),
(30,(Tryz.f30,Gu)),
(31,(Tryz.f31,Gv)),
(32,(Tryz.f32,B5)),
(33,(Tryz.f33,B6)),
(34,(Tryz.f34,B7)),
(35,(Tryz.f35,B8)),
(36,(Tryz.f36,B9)),
(37,(Tryz.f37,Ca)),
(38,(Tryz.f38,Cb)),
(39,(Tryz.f39,Cc)),
(40,(Tryz.f40,Cd)),
(41,(Tryz.f41,Ce)),
(44,(Tryz.f44,Cf)),
(45,(Tryz.f45,Cg)),
(46,(Tryz.f46,Ch)),
(47,(Tryz.f47,Ci)),
(48,(Tryz.f48,Cj)),
(49,(Tryz.f49,Ck)),
(50,(Tryz.f50,Cl)),
(51,(Tryz.f51,Cm)),
(52,(Tryz.f52,Cn)),
(53,(Tryz.f53,Gx)),
(54,(Tryz.f54,Gy)),
(55,(Tryz.f55,Gz)),
(56,(Tryz.f56,GA)),
(57,(Tryz.f57,GC)),
(58,(Tryz.f58,GD)),
(59,(Tryz.f59,GE)),
(60,(Tryz.f60,GG)),
(61,(Tryz.f61,GH)),
(62,(Tryz.f62,GI)),
(63,(Tryz.f63,GJ)),
(64,(Tryz.f64,GK)),
(65,(Tryz.f65,GL)),
(66,(Tryz.f66,GM)),
(67,(Tryz.f67,GN)),
(68,(Tryz.f68,GO)),
(69,(Tryz.f69,GP)),
(70,(Tryz.f70,GR)),
(71,(Tryz.f71,GT)),
(72,(Tryz.f72,GU)),
(73,(Tryz.f73,GV)),
(74,(Tryz.f74,GW)),
(75,(Tryz.f75,GX)),
(76,(Tryz.f76,GY)),
(77,(Tryz.f77,Co)),
(78,(Tryz.f78,Cp)),
(79,(Tryz.f79,Cq)),
(80,(Tryz.f80,Cr)),
(81,(Tryz.f81,Cs)),
(82,(Tryz.f82,Ct)),
(83,(Tryz.f83,Cu)),
(84,(Tryz.f84,Cv)),
(85,(Tryz.f85,Cw)),
(86,(Tryz.f86,Cy)),
(87,(Tryz.f87,Cz)),
(88,(Tryz.f88,CB)),
(89,(Tryz.f89,CE)),
(90,(Tryz.f90,CF)),
(92,(Tryz.f92,CG)),
(93,(Tryz.f93,CH)),
(94,(Tryz.f94,G0)),
(96,(Tryz.f96,G4)),
(97,(Tryz.f97,G5)),
(98,(Tryz.f98,G6)),
(99,(Tryz.f99,G7)),
(100,(Tryz.f100,De)),
(101,(Tryz.f101,Df)),
(102,(Tryz.f102,Dg)),
(103,(Tryz.f103,Dh)),
(104,(Tryz.f104,Di)),
(105,(Tryz.f105,Dj)),
(106,(Tryz.f106,Dk)),
(107,(Tryz.f107,Dl)),
(108,(Tryz.f108,Dm)),
(109,(Tryz.f109,Dn)),
(110,(Tryz.f110,Do)),
(111,(Tryz.f111,Dp)),
(112,(Tryz.f112,Dq)),
(113,(Tryz.f113,Ds)),
(114,(Tryz.f114,Dt)),
(115,(Tryz.f115,Du)),
(116,(Tryz.f116,Dv)),
(119,(Tryz.f119,Dw)),
(120,(Tryz.f120,Dx)),
(121,(Tryz.f121,Dy)),
(122,(Tryz.f122,Dz)),
(123,(Tryz.f123,DC)),
(124,(Tryz.f124,DD)),
(125,(Tryz.f125,xV)),
(126,(Tryz.f126,xW)),
(127,(Tryz.f127,xX)),
(128,(Tryz.f128,xY)),
(129,(Tryz.f129,xZ)),
(130,(Tryz.f130,ya)),
(131,(Tryz.f131,yb)),
(132,(Tryz.f132,yc)),
(133,(Tryz.f133,yd)),
(134,(Tryz.f134,ye)),
(135,(Tryz.f135,yf)),
(136,(Tryz.f136,yg)),
(137,(Tryz.f137,yh)),
(138,(Tryz.f138,DF)),
(139,(Tryz.f139,DG)),
(140,(Tryz.f140,DI)),
(141,(Tryz.f141,DJ)),
(143,(Tryz.f143,DK)),
(144,(Tryz.f144,DL)),
(145,(Tryz.f145,DN)),
(147,(Tryz.f147,DO)),
(148,(Tryz.f148,DR)),
(150,(Tryz.f150,DT)),
(152,(Tryz.f152,DU)),
(154,(Tryz.f154,DV)),
(155,(Tryz.f155,DW)),
(156,(Tryz.f156,DX)),
(158,(Tryz.f158,DY)),
(159,(Tryz.f159,DZ)),
(160,(Tryz.f160,D1)),
(161,(Tryz.f161,D2)),
(162,(Tryz.f162,yj)),
(164,(Tryz.f164,yk)),
(165,(Tryz.f165,yl)),
(168,(Tryz.f168,D3)),
(169,(Tryz.f169,D4)),
(170,(Tryz.f170,D5))]
def vG:List (Nat×(Func×Ann))->Nat->Option (Func×Ann)
 |[],_=>none
 |(k,x):: r,t=>bif Nat.beq k t then some x else vG r t
def own:FuncId->Option Nat:=fun f=>bif Nat.beq f 118 then some 3 else bif Nat.beq f 136 then some 1 else bif Nat.beq f 137 then some 4 else bif Nat.beq f 146 then some 1 else bif Nat.beq f 149 then some 9 else bif Nat.beq f 151 then some 12 else bif Nat.beq f 153 then some 3 else none
noncomputable def other:FuncId->Option ((FuncId->List AV->M AV)->List AV->M AV):=fun f=>
 bif Nat.beq f 42 then some (dW T 37)else bif Nat.beq f 43 then some (tp 40 .i64 (.agg [.int .i64 0,.int .i64 0,.sl [],.sl []]))else bif Nat.beq f 95 then some (jl)else bif Nat.beq f 117 then some (mN)else bif Nat.beq f 118 then some (dX T 28)else bif Nat.beq f 146 then some (nG)else bif Nat.beq f 149 then some (nG)else bif Nat.beq f 151 then some (nG)else bif Nat.beq f 153 then some (nG)else bif Nat.beq f 163 then some (dX T 27)else none
noncomputable def pg:Pg:={ T:=T,funcs:=vG xL,own:=own,other:=other,nw:=fun f=>bif Nat.beq f 42 then true else false }
def aG:cL pg:=by
 intro f E hE call calls hc;have h0:other f=some E:=hE;unfold other at h0;rcases dp h0 with rfl|h0
 ·exact tS _ _ _ _
 rcases dp h0 with rfl|h0
 ·exact zU _ _ _ _ _ hc
 rcases dp h0 with rfl|h0
 ·exact bz.const _
 rcases dp h0 with rfl|h0
 ·exact bz.const _
 rcases dp h0 with rfl|h0
 ·exact nc _ _ _ _
 rcases dp h0 with rfl|h0
 ·exact bz.const _
 rcases dp h0 with rfl|h0
 ·exact bz.const _
 rcases dp h0 with rfl|h0
 ·exact bz.const _
 rcases dp h0 with rfl|h0
 ·exact bz.const _
 rcases dp h0 with rfl|h0
 ·exact nc _ _ _ _
 cases h0
end Go.Proofs.YtmgjpakjlbofpaaGreat
namespace Go.Proofs.YtmgjpakjlbofpaaGreat
open Go Go.Av
set_option maxRecDepth 1000000
instance dr0:Dr:=⟨False⟩
def EZ{p:Prop}(h:Dr.on):p:=False.elim h
def Fp:(tab.map fun x=>Fq Tryz.prog x.1)=tab.map fun x=>some x.2:=by kernel_rfl
theorem pp:(l:List (Nat×TI))->(t:Nat)->(ti:TI)->vH l t=some ti->(t,ti)∈l
 |[],t,ti,h=>by cases h
 | (k,x):: r,t,ti,h=>by
  simp only[vH]at h;cases hk:Nat.beq k t with
  |true=>
   rw[hk]at h;simp only[Kh,Kg]at h
   have:=Ko hk
   subst this h;exact Lv
  |false=>
   rw[hk]at h;exact Lq _ (pp r t ti h)
theorem im{α β:Type}{f g:α->β}:{l:List α} ->l.map f=l.map g->∀x∈l,f x=g x
 |[],_,x,hx=>by cases hx
 |a:: l,h,x,hx=>by
  simp only[Lc,Mb]at h;rcases KI.1 hx with rfl|hx
  ·exact h.1
  ·exact im h.2 x hx
def tok:TOK Tryz.prog T:=⟨fun t ti h=>im Fp (t,ti) (pp tab t ti h),by kernel_rfl⟩
def BL:(xL.map fun x=>Tryz.prog.funcs[x.1]?)=xL.map fun x=>some x.2.1:=by kernel_rfl
def uU:(xL.map fun x=>x.2.1.name== "runtime.NumGoroutine")=xL.map fun _=>false:=by kernel_rfl
theorem po:(l:List (Nat×(Func×Ann)))->(t:Nat)->(x:Func×Ann)->vG l t=some x->(t,x)∈l
 |[],t,ti,h=>by cases h
 | (k,x):: r,t,ti,h=>by
  simp only[vG]at h;cases hk:Nat.beq k t with
  |true=>
   rw[hk]at h;simp only[Kh,Kg]at h
   have:=Ko hk
   subst this h;exact Lv
  |false=>
   rw[hk]at h;exact Lq _ (po r t ti h)
def yY:∀f fn a,pg.funcs f=some (fn,a)->Tryz.prog.funcs[f]? = some fn/\(fn.name== "runtime.NumGoroutine")=false:=by
 intro f fn a h
 have:=po xL f (fn,a) h
 exact⟨im BL _ this,im uU _ this⟩
end Go.Proofs.YtmgjpakjlbofpaaGreat
namespace Go.Proofs.YtmgjpakjlbofpaaGreat
open Go Go.Av
set_option maxRecDepth 100000
noncomputable def rO(n:Nat)(a:Ann):Cx:={ T:=T,call:=fun _ _=>M.fail,own:=own,iso:=fun _=>false,nw:=fun _=>false,nt:=n,ann:=a }
def lp(n:Nat)(a:Ann):ci Tryz.prog (rO n a).own (rO n a).call:=fun f args h S β w vs hr=>absurd rfl hr
def qo(n:Nat)(a:Ann):IsoCall (rO n a):=⟨fun f args h=>Bool.noConfusion h,fun f args h=>Bool.noConfusion h⟩
def Jq(e:AV)(es:List AV):b6 (rO Tryz.f42.ntmps vg) (cm 0) Tryz.f42 none [.sl (e:: es)]=ae (appH T 37 true (.sl []) (.sl (e:: es))) fun v=>ae (ah (some v)) M.pure:=by kernel_rfl
def Jr:b6 (rO Tryz.f42.ntmps vg) (cm 0) Tryz.f42 none [.hn]=ae (ah (some (.sl []))) M.pure:=by kernel_rfl
def Js(l off:Nat):b6 (rO Tryz.f42.ntmps vg) (cm 0) Tryz.f42 none [.hs l off 0 1 false]=ae (appH T 37 true (.sl []) (.hs l off 0 1 false)) fun v=>ae (ah (some v)) M.pure:=by kernel_rfl
def Hj(e:AV)(es:List AV):b6 (rO Tryz.f163.ntmps qh) (cm 0) Tryz.f163 none [.sl (e:: es)]=ae (ah (cu T 27 (.sl []) (.sl (e:: es)))) fun v=>ae (ah (some v)) M.pure:=by kernel_rfl
def Hk:b6 (rO Tryz.f163.ntmps qh) (cm 0) Tryz.f163 none [.hn]=ae (ah (some (.sl []))) M.pure:=by kernel_rfl
def Hl(l off:Nat):b6 (rO Tryz.f163.ntmps qh) (cm 0) Tryz.f163 none [.hs l off 0 1 false]=ae (ah (cu T 27 (.sl []) (.hs l off 0 1 false))) fun v=>ae (ah (some v)) M.pure:=by kernel_rfl
def Hm(l off:Nat):cu T 27 (.sl []) (.hs l off 0 1 false)=some (.sl []):=by rfl
def HL(call:FuncId->List AV->M AV)(args:List AV)(h:Hp)(S:aw)(β:List bw)(w:World)(vs:List Value)(hr:dW T 37 call args h≠.fail)(hg:tA β h w)(hw:Wf S w)(hh:cD S β w h)(hv:bc S β args vs):
  Calls Tryz.prog 42 vs.toArray w (d7 none S β h w (dW T 37 call args h)):=by
 have key:∀es,args=[.sl es]->Calls Tryz.prog 42 vs.toArray w (d7 none S β h w (dW T 37 call args h)):=by
  rintro es rfl;exact (iP (cx:=rO Tryz.f42.ntmps vg) (E:=fun es h=>dW T 37 call [.sl es] h) tok (lp _ _) (qo _ _) Tryz.func42 rfl (fun h=>by rfl) (fun e es h=>by rw[Jq];exact MR (tK _) h) (fun h=>by rw[Jr];rfl) (fun l off h=>by rw[Js];rfl) hr hg hw hh hv).1
 unfold dW at hr;split at hr
 ·exact key _ rfl
 ·exact absurd rfl hr
def Fa(call:FuncId->List AV->M AV)(args:List AV)(h:Hp)(S:aw)(β:List bw)(w:World)(vs:List Value)(hr:dX T 27 call args h≠.fail)(hg:tA β h w)(hw:Wf S w)(hh:cD S β w h)(hv:bc S β args vs):
  Calls Tryz.prog 163 vs.toArray w (d7 none S β h w (dX T 27 call args h)):=by
 have key:∀es,args=[.sl es]->Calls Tryz.prog 163 vs.toArray w (d7 none S β h w (dX T 27 call args h)):=by
  rintro es rfl;exact (iP (cx:=rO Tryz.f163.ntmps qh) (E:=fun es h=>dX T 27 call [.sl es] h) tok (lp _ _) (qo _ _) Tryz.func163 rfl (fun h=>by rfl) (fun e es h=>by rw[Hj];exact MR (tK _) h) (fun h=>by rw[Hk];rfl) (fun l off h=>by rw[Hl,Hm];rfl) hr hg hw hh hv).1
 unfold dX at hr;split at hr
 ·exact key _ rfl
 ·exact absurd rfl hr
def Gg:Prop:=∀call,ci Tryz.prog own call->∀(args:List AV)(h:Hp)(S:aw)(β:List bw)(w:World)(vs:List Value),tp 40 .i64 (.agg [.int .i64 0,.int .i64 0,.sl [],.sl []]) call args h≠.fail->tA β h w->Wf S w->cD S β w h->bc S β args vs->
 Calls Tryz.prog 43 vs.toArray w (d7 none S β h w (tp 40 .i64 (.agg [.int .i64 0,.int .i64 0,.sl [],.sl []]) call args h))
end Go.Proofs.YtmgjpakjlbofpaaGreat
namespace Go.Proofs.YtmgjpakjlbofpaaGreat
open Go Go.Av
def tR(p q:Addr)(w:World):CallsD Tryz.prog 91 #[.pointer (some p),.pointer (some q)] .returning w fun e u' w'=>e= .returned (.tuple #[])/\u'= .returning/\w'=w:=by
 refine callsD_of_wpS Tryz.func91 rfl fun c₀ cs hu=>?_;apply wpS_seq;apply wpS_region;simp[wpOpsS,go_sem,recoverD,hu,Tryz.ntmps91,Exit.thenS];refine wpS_of_wp ?_
 go_wp2
 cases c₀;simp_all[bodyPostS,results,Tryz.results91]
def yr(n:Int)(w:World):(Instr.typeAssert (.iface 40 (.int .i64 n)) 20 40 true).run Tryz.prog w= .ok (.tuple #[.int .i64 n,.bool true]) w:=by kernel_rfl
def Eb(w:World):(Instr.build 42 #[]).run Tryz.prog w= .ok (.agg #[.int .i64 0,.int .i64 0,.slice none 0 0,.slice none 0 0]) w:=by
 obtain⟨v,h1,h2⟩:=rE (P:=Tryz.prog) (T:=T) (w:=w) (S:=fun _ _=>none) (β:=[]) (told:=true) (t:=42) (parts:=[]) (r:=.agg [.int .i64 0,.int .i64 0,.hn,.hn]) (qs:=#[]) tok rfl rfl;rw[h1];simp only[VR,bc]at h2;obtain⟨vs,rfl,a,_,rfl,rfl,b,_,rfl,rfl,c,_,rfl,rfl,d,_,rfl,rfl,rfl⟩:=h2;rfl
set_option maxHeartbeats 4000000 in
set_option maxRecDepth 100000 in
def wM(b c:Nat)(x0 x1 x2 x3 y0:Value)(n:Int)(w:World)(c0:w.cell? ⟨b,0,none⟩=some x0)(c1:w.cell? ⟨b,1,none⟩=some x1)(c2:w.cell? ⟨b,2,none⟩=some x2)(c3:w.cell? ⟨b,3,none⟩=some x3)(d0:w.cell? ⟨c,0,none⟩=some y0)(f0:w.frozen? ⟨b,0,none⟩=false)(f1:w.frozen? ⟨b,1,none⟩=false)(f2:w.frozen? ⟨b,2,none⟩=false)(f3:w.frozen? ⟨b,3,none⟩=false)(g0:w.frozen? ⟨c,0,none⟩=false)(hne:¬b=c)(hne':¬c=b):
  CallsD Tryz.prog 91 #[.pointer (some ⟨b,0,none⟩),.pointer (some ⟨c,0,none⟩)] (.panicking [{ v:=.iface 40 (.int .i64 n),recovered:=false }]) w fun e u' w'=>
   e= .returned (.tuple #[])/\u'= .panicking [{ v:=.iface 40 (.int .i64 n),recovered:=true }]/\w'=((((w.setCell ⟨b,0,none⟩ (.int .i64 0)).setCell ⟨b,1,none⟩ (.int .i64 0)).setCell ⟨b,2,none⟩ (.slice none 0 0)).setCell ⟨b,3,none⟩ (.slice none 0 0)).setCell ⟨c,0,none⟩ (.int .i64 n):=by
 refine callsD_of_wpS Tryz.func91 rfl fun c₀ cs hu=>?_;apply wpS_seq;apply wpS_region;simp[wpOpsS,go_sem,recoverD,hu,Tryz.ntmps91,Exit.thenS];refine wpS_of_wp ?_;have h1:=yr n;have h2:=Eb
 go_wp2
 cases c₀;simp_all[bodyPostS,results,Tryz.results91]
end Go.Proofs.YtmgjpakjlbofpaaGreat
namespace Go.Proofs.YtmgjpakjlbofpaaGreat
open Go Go.Av
set_option maxRecDepth 100000
def lL(w:World):World:=(w.alloc (Obj.cells #[Value.int IntKind.i64 0,Value.int IntKind.i64 0,Value.slice none 0 0,Value.slice none 0 0] 42)).alloc (Obj.cells #[Value.int IntKind.i64 0] 40)
def uV(w w':World)(u0 u1 u2 u3 e:Value):World:=((((w'.setCell ⟨w.heap.size,0,none⟩ u0).setCell ⟨w.heap.size,1,none⟩ u1).setCell ⟨w.heap.size,2,none⟩ u2).setCell ⟨w.heap.size,3,none⟩ u3).setCell ⟨w.heap.size+1,0,none⟩ e
def JM(w:World)(R:Ending->World->Prop):Ending->World->Prop:=fun e w'=>
 w'.heap[w.heap.size]? = (lL w).heap[w.heap.size]? /\w'.heap[w.heap.size+1]? = (lL w).heap[w.heap.size+1]? /\
 ((∃u0 u1 u2 u3:Value,u0.oneCell'=true/\u1.oneCell'=true/\u2.oneCell'=true/\u3.oneCell'=true/\e= .returned (.agg #[u0,u1,u2,u3])/\R (.returned (.tuple #[.agg #[u0,u1,u2,u3],.int .i64 0])) (uV w w' u0 u1 u2 u3 (.int .i64 0)))\/
  ∃n,e= .panicked [{ v:=.iface 40 (.int .i64 n),recovered:=false }]/\R (.returned (.tuple #[.agg #[.int .i64 0,.int .i64 0,.slice none 0 0,.slice none 0 0],.int .i64 n])) (uV w w' (.int .i64 0) (.int .i64 0) (.slice none 0 0) (.slice none 0 0) (.int .i64 n)))
set_option maxHeartbeats 4000000 in
def zW(g:FuncId)(x y:Array Value)(w:World)(R:Ending->World->Prop)(hfn:(Tryz.prog.funcs[g]?).any (fun fn=>fn.body.isSome&&!(fn.name== "runtime.NumGoroutine"))=true)(hc:Calls Tryz.prog g (x++y) (lL w) (JM w R)):Calls Tryz.prog 43 #[.func (.func g) x y] w R:=by
 have hmf:∀(fn:Fn)(first cap:Array Value)(w:World),(Instr.makeFunc fn first cap).run Tryz.prog w= .ok (.func fn first cap) w:=fun _ _ _ _=>rfl
 go_enter_defers Tryz.func43,Tryz.ntmps43
 go_wp2
 rw[fF hfn,Oper.upon_enter];refine hc.mono fun e w' h=>?_;obtain⟨k0,k1,h⟩:=h;have r0:w'.heap[w.heap.size]? = some (.cells #[Value.int IntKind.i64 0,Value.int IntKind.i64 0,Value.slice none 0 0,Value.slice none 0 0] 42):=by rw[k0];exact (Go.Av.alloc_old _ _ (by simp)).trans (heap_alloc_new w _)
 have r1:w'.heap[w.heap.size+1]? = some (.cells #[Value.int IntKind.i64 0] 40):=by rw[k1];have:=heap_alloc_new (w.alloc (Obj.cells #[Value.int IntKind.i64 0,Value.int IntKind.i64 0,Value.slice none 0 0,Value.slice none 0 0] 42)) (Obj.cells #[Value.int IntKind.i64 0] 40);rwa [World.size_alloc]at this
 have c0:w'.cell? ⟨w.heap.size,0,none⟩=some (.int .i64 0):=by simp[World.cell?,r0]
 have c1:w'.cell? ⟨w.heap.size,1,none⟩=some (.int .i64 0):=by simp[World.cell?,r0]
 have c2:w'.cell? ⟨w.heap.size,2,none⟩=some (.slice none 0 0):=by simp[World.cell?,r0]
 have c3:w'.cell? ⟨w.heap.size,3,none⟩=some (.slice none 0 0):=by simp[World.cell?,r0]
 have d0:w'.cell? ⟨w.heap.size+1,0,none⟩=some (.int .i64 0):=by simp[World.cell?,r1]
 have f0:w'.frozen? ⟨w.heap.size,0,none⟩=false:=by simp[World.frozen?,r0]
 have f1:w'.frozen? ⟨w.heap.size,1,none⟩=false:=by simp[World.frozen?,r0]
 have f2:w'.frozen? ⟨w.heap.size,2,none⟩=false:=by simp[World.frozen?,r0]
 have f3:w'.frozen? ⟨w.heap.size,3,none⟩=false:=by simp[World.frozen?,r0]
 have g0:w'.frozen? ⟨w.heap.size+1,0,none⟩=false:=by simp[World.frozen?,r1]
 clear k0 k1 r0 r1 hc hmf;rcases h with⟨u0,u1,u2,u3,o0,o1,o2,o3,rfl,hR⟩|⟨n,rfl,hR⟩
 ·simp only;rename_i K1 hK1 K hK;apply hK;clear hK;have hK1':=hK1;clear hK1;have s0:∀a m (w:World),(store a u0 m).run Tryz.prog w=stored Tryz.prog w a u0 m:=fun a m w=>run_store _ w a u0 m o0;have s1:∀a m (w:World),(store a u1 m).run Tryz.prog w=stored Tryz.prog w a u1 m:=fun a m w=>run_store _ w a u1 m o1;have s2:∀a m (w:World),(store a u2 m).run Tryz.prog w=stored Tryz.prog w a u2 m:=fun a m w=>run_store _ w a u2 m o2;have s3:∀a m (w:World),(store a u3 m).run Tryz.prog w=stored Tryz.prog w a u3 m:=fun a m w=>run_store _ w a u3 m o3
  go_wp2
  change Leaves _ _ _ _ _ _ _;refine leaves_cons (f:=91) (args:=#[.pointer (some ⟨w.heap.size,0,none⟩),.pointer (some ⟨w.heap.size+1,0,none⟩)]) (by simp) (by simp[go_sem]) ?_;refine (tR ⟨w.heap.size,0,none⟩ ⟨w.heap.size+1,0,none⟩ _).mono ?_;rintro e u' w'' ⟨rfl,rfl,rfl⟩;simp only[Leaves,settle];refine⟨_,?_,hR⟩;simp[results,Tryz.results43,go_sem,uV,World.cell?_setCell_same,c0,c1,c2,c3,d0]
 ·change Leaves _ _ _ _ _ _ _;refine leaves_cons (f:=91) (args:=#[.pointer (some ⟨w.heap.size,0,none⟩),.pointer (some ⟨w.heap.size+1,0,none⟩)]) (by simp) (by simp[go_sem]) ?_;refine (wM w.heap.size (w.heap.size+1) _ _ _ _ _ n w' c0 c1 c2 c3 d0 f0 f1 f2 f3 g0 (by omega) (by omega)).mono ?_;rintro e u' w'' ⟨rfl,rfl,rfl⟩;simp only[Leaves,settle];refine⟨_,?_,hR⟩;simp[results,Tryz.results43,go_sem,uV,World.cell?_setCell_same,c0,c1,c2,c3,d0]
def lM(w:World):(lL w).heap.size=w.heap.size+2:=by simp[lL]
def zV(w:World)(b:Nat)(hb:b<w.heap.size):(lL w).heap[b]? = w.heap[b]?:=by
 unfold lL;rw[Go.Av.alloc_old _ _ (by simp;omega),Go.Av.alloc_old _ _ hb]
def tt(w:World):Gro w (lL w):=(Gro.alloc w _ _).trans (Gro.alloc _ _ _)
def tq(w w':World)(u0 u1 u2 u3 e:Value):Gro w' (uV w w' u0 u1 u2 u3 e):=
 ((((Gro.setCell _ _ _).trans (Gro.setCell _ _ _)).trans (Gro.setCell _ _ _)).trans (Gro.setCell _ _ _)).trans (Gro.setCell _ _ _)
def pT(w w':World)(u0 u1 u2 u3 e:Value)(b:Nat)(hb:¬(w.heap.size<=b/\b<(lL w).heap.size)):(uV w w' u0 u1 u2 u3 e).heap[b]? = w'.heap[b]?:=by
 rw[lM]at hb;unfold uV;rw[ez (by simp;omega),ez (by simp;omega),ez (by simp;omega),ez (by simp;omega),ez (by simp;omega)]
def wK{call:FuncId->List AV->M AV}{f:AV}{xs:List AV}{h:Hp}(hr:bO call f xs h≠.fail):∃g a c,f= .fn (.func g) a c:=by
 unfold bO at hr;split at hr
 ·exact⟨_,_,_,rfl⟩
 ·exact absurd rfl hr
theorem Ft:Gg:=by
 intro call hC args h S β w vs hr hg hw hh hv
 have key:∀f,args=[f]->Calls Tryz.prog 43 vs.toArray w (d7 none S β h w (tp 40 .i64 (.agg [.int .i64 0,.int .i64 0,.sl [],.sl []]) call args h)):=by
  rintro f rfl;have ht:tp 40 .i64 (.agg [.int .i64 0,.int .i64 0,.sl [],.sl []]) call [f] h=q7 40 .i64 (.agg [.int .i64 0,.int .i64 0,.sl [],.sl []]) (bO call f [] h):=rfl;rw[ht]at hr |-;clear ht;simp only[bc]at hv;obtain⟨fv,_,rfl,hv,rfl⟩:=hv;have hne:bO call f [] h≠.fail:=fun e=>by rw[e]at hr;exact hr rfl
  obtain⟨g,a,c,rfl⟩:=wK hne
  ·have hcv:bO call (.fn (.func g) a c) [] h=call g (a++[]++c) h:=rfl;rw[hcv]at hr hne |-;simp only[VR]at hv;obtain⟨x,y,rfl,hx,hy⟩:=hv;have hold:=zV w;have hv2:bc S β (a++[]++c) (x++y):=by simpa using hx.append hy
   obtain⟨hcall,hfn⟩:=hC g (a++[]++c) h S β (lL w) (x++y) hne ⟨hg.1.mono fun b hb=>hold b (KR hb hg.1.lt),hg.2⟩ (hw.grow hold) (hh.grow hold) hv2;refine zW g x.toArray y.toArray w _ hfn ?_;have e:(x++y).toArray=x.toArray++y.toArray:=by simp
   rw[<- e];refine hcall.mono fun en w' hp=>?_;have kk:∀S' β' h',Go.Av.Left (bZ β h) S β (lL w) S' β' w' h'->w'.heap[w.heap.size]? = (lL w).heap[w.heap.size]? /\w'.heap[w.heap.size+1]? = (lL w).heap[w.heap.size+1]?:=fun S' β' h' L=>
    ⟨(L.keep _ (by rw[lM];omega) fun ho=>by have:=hh.low ho;omega).1,(L.keep _ (by rw[lM];omega) fun ho=>by have:=hh.low ho;omega).1⟩
   generalize call g (a++[]++c) h=r at hr hne hp |-;cases r with
   |fail=>exact absurd rfl hne
   | ok v h'=>
    obtain⟨S',β',u,rfl,hu,L,_⟩:=hp;refine⟨(kk _ _ _ L).1,(kk _ _ _ L).2,.inl ?_⟩;simp only[q7]at hr |-;cases hok:bv 4 v with
    |false=>rw[hok]at hr;exact absurd rfl hr
    | true=>
     obtain⟨g1,g2,g3⟩:=iq hok hu;have hcs:∃cs,v= .agg cs:=by
      simp only[bv,Kj]at hok;have h1:=hok.1;cases v<;>simp[bT]at h1;exact⟨_,rfl⟩
     obtain⟨cs,rfl⟩:=hcs;simp only[VR]at hu;obtain⟨us,rfl,hus⟩:=hu;simp only[Value.cells]at g1 g3
     match us,g1 with
     |[u0,u1,u2,u3],_=>
      refine⟨u0,u1,u2,u3,g3 u0 (by simp),g3 u1 (by simp),g3 u2 (by simp),g3 u3 (by simp),rfl,S',β',_,rfl,?_,pD (tt w) hold L (tq ..) (fun b hb=>pT w w' _ _ _ _ _ b hb) hw hh,fun sz hsz=>by cases hsz⟩;simp only[VR,bc];exact⟨[.agg #[u0,u1,u2,u3],.int .i64 0],rfl,_,_,rfl,⟨[u0,u1,u2,u3],rfl,hus⟩,_,_,rfl,rfl,rfl⟩
   | pan v h'=>
    obtain⟨S',β',u,rfl,hu,L⟩:=hp;refine⟨(kk _ _ _ L).1,(kk _ _ _ L).2,.inr ?_⟩;unfold q7 at hr |-;split at hr
    ·rename_i heq;cases heq
    ·rename_i t' k' n h'' heq;cases heq;cases hb:(Nat.beq t' 40&&decide (k'=IntKind.i64))with
     |false=>rw[hb]at hr;exact absurd rfl hr
     |true=>
      simp only[Kj,KQ]at hb;obtain⟨hb1,rfl⟩:=hb
      have:=Ko hb1
      subst this;simp only[VR]at hu;obtain⟨u',rfl,rfl⟩:=hu;refine⟨n,rfl,S',β',_,rfl,?_,pD (tt w) hold L (tq ..) (fun b hb=>pT w w' _ _ _ _ _ b hb) hw hh,fun sz hsz=>by cases hsz⟩;simp only[VR,bc];refine⟨[.agg #[.int .i64 0,.int .i64 0,.slice none 0 0,.slice none 0 0],.int .i64 n],rfl,_,_,rfl,⟨[.int .i64 0,.int .i64 0,.slice none 0 0,.slice none 0 0],rfl,_,_,rfl,rfl,_,_,rfl,rfl,_,_,rfl,?_,_,_,rfl,?_,rfl⟩,_,_,rfl,rfl,rfl⟩
      ·exact⟨none,0,rfl,Kk _,fun _=>rfl,fun q hq=>by cases hq⟩
      ·exact⟨none,0,rfl,Kk _,fun _=>rfl,fun q hq=>by cases hq⟩
    ·exact absurd rfl hr
 rcases args with _|⟨f,_|⟨f2,r⟩⟩
 ·exact absurd rfl hr
 ·exact key _ rfl
 ·exact absurd rfl hr
end Go.Proofs.YtmgjpakjlbofpaaGreat
namespace Go.Proofs
open Go.Shelf
def Tryz.layGrow146_ren:Go.Shelf.Ren:=⟨fun|4=>146|n=>n,fun|22=>27|25=>9|3=>3|4=>4|9=>9|20=>20|0=>0|n=>n,fun|n=>n⟩
def J8:Go.Proofs.Lays8.n4 Tryz.prog Tryz.layGrow146_ren:={
 mixed:=by kernel_rfl
 f4:=⟨Tryz.f146.name,by decide,Tryz.func146.trans (Kv some (by kernel_rfl))⟩
 t0:=Tryz.underlying0
 a0:=Tryz.isAgg0
 z0:=Tryz.sizeOf0
 v0:=Tryz.zeroValue0
 t3:=Tryz.underlying3
 a3:=Tryz.isAgg3
 z3:=Tryz.sizeOf3
 v3:=Tryz.zeroValue3
 t4:=Tryz.underlying4
 a4:=Tryz.isAgg4
 z4:=Tryz.sizeOf4
 v4:=Tryz.zeroValue4
 t9:=Tryz.underlying9
 a9:=Tryz.isAgg9
 z9:=Tryz.sizeOf9
 v9:=Tryz.zeroValue9
 t20:=Tryz.underlying20
 a20:=Tryz.isAgg20
 z20:=Tryz.sizeOf20
 v20:=Tryz.zeroValue20
 t22:=Tryz.underlying27
 a22:=Tryz.isAgg27
 z22:=Tryz.sizeOf27
 v22:=Tryz.zeroValue27 }
def Tryz.layGrow149_ren:Go.Shelf.Ren:=⟨fun|4=>149|n=>n,fun|22=>138|25=>124|3=>3|4=>4|9=>9|20=>20|0=>0|n=>n,fun|n=>n⟩
def J9:Go.Proofs.Lays8.n4 Tryz.prog Tryz.layGrow149_ren:={
 mixed:=by kernel_rfl
 f4:=⟨Tryz.f149.name,by decide,Tryz.func149.trans (Kv some (by kernel_rfl))⟩
 t0:=Tryz.underlying0
 a0:=Tryz.isAgg0
 z0:=Tryz.sizeOf0
 v0:=Tryz.zeroValue0
 t3:=Tryz.underlying3
 a3:=Tryz.isAgg3
 z3:=Tryz.sizeOf3
 v3:=Tryz.zeroValue3
 t4:=Tryz.underlying4
 a4:=Tryz.isAgg4
 z4:=Tryz.sizeOf4
 v4:=Tryz.zeroValue4
 t9:=Tryz.underlying9
 a9:=Tryz.isAgg9
 z9:=Tryz.sizeOf9
 v9:=Tryz.zeroValue9
 t20:=Tryz.underlying20
 a20:=Tryz.isAgg20
 z20:=Tryz.sizeOf20
 v20:=Tryz.zeroValue20
 t22:=Tryz.underlying138
 a22:=Tryz.isAgg138
 z22:=Tryz.sizeOf138
 v22:=Tryz.zeroValue138 }
def Tryz.layGrow151_ren:Go.Shelf.Ren:=⟨fun|4=>151|n=>n,fun|22=>30|25=>61|3=>3|4=>4|9=>9|20=>20|0=>0|n=>n,fun|n=>n⟩
def Ka:Go.Proofs.Lays8.n4 Tryz.prog Tryz.layGrow151_ren:={
 mixed:=by kernel_rfl
 f4:=⟨Tryz.f151.name,by decide,Tryz.func151.trans (Kv some (by kernel_rfl))⟩
 t0:=Tryz.underlying0
 a0:=Tryz.isAgg0
 z0:=Tryz.sizeOf0
 v0:=Tryz.zeroValue0
 t3:=Tryz.underlying3
 a3:=Tryz.isAgg3
 z3:=Tryz.sizeOf3
 v3:=Tryz.zeroValue3
 t4:=Tryz.underlying4
 a4:=Tryz.isAgg4
 z4:=Tryz.sizeOf4
 v4:=Tryz.zeroValue4
 t9:=Tryz.underlying9
 a9:=Tryz.isAgg9
 z9:=Tryz.sizeOf9
 v9:=Tryz.zeroValue9
 t20:=Tryz.underlying20
 a20:=Tryz.isAgg20
 z20:=Tryz.sizeOf20
 v20:=Tryz.zeroValue20
 t22:=Tryz.underlying30
 a22:=Tryz.isAgg30
 z22:=Tryz.sizeOf30
 v22:=Tryz.zeroValue30 }
def Tryz.layGrow153_ren:Go.Shelf.Ren:=⟨fun|4=>153|n=>n,fun|22=>144|25=>32|3=>3|4=>4|9=>9|20=>20|0=>0|n=>n,fun|n=>n⟩
def J7:Go.Proofs.Lays8.n4 Tryz.prog Tryz.layGrow153_ren:={
 mixed:=by kernel_rfl
 f4:=⟨Tryz.f153.name,by decide,Tryz.func153.trans (Kv some (by kernel_rfl))⟩
 t0:=Tryz.underlying0
 a0:=Tryz.isAgg0
 z0:=Tryz.sizeOf0
 v0:=Tryz.zeroValue0
 t3:=Tryz.underlying3
 a3:=Tryz.isAgg3
 z3:=Tryz.sizeOf3
 v3:=Tryz.zeroValue3
 t4:=Tryz.underlying4
 a4:=Tryz.isAgg4
 z4:=Tryz.sizeOf4
 v4:=Tryz.zeroValue4
 t9:=Tryz.underlying9
 a9:=Tryz.isAgg9
 z9:=Tryz.sizeOf9
 v9:=Tryz.zeroValue9
 t20:=Tryz.underlying20
 a20:=Tryz.isAgg20
 z20:=Tryz.sizeOf20
 v20:=Tryz.zeroValue20
 t22:=Tryz.underlying144
 a22:=Tryz.isAgg144
 z22:=Tryz.sizeOf144
 v22:=Tryz.zeroValue144 }
def Kc:Go.Shelf.Ren:=⟨fun|144=>95|143=>142|219=>166|217=>171|225=>172|224=>173|267=>174|266=>175|314=>176|n=>n,fun|9=>9|4=>4|3=>3|5=>5|46=>244|146=>246|51=>245|n=>n,fun|1=>0|n=>n⟩
def Kd:Go.Proofs.Lays.n144 Tryz.prog Kc:={
 mixed:=by kernel_rfl
 f143:=Tryz.func142.trans (Kv some (by kernel_rfl))
 f144:=Tryz.func95.trans (Kv some (by kernel_rfl))
 f217:=Tryz.func171.trans (Kv some (by kernel_rfl))
 f219:=Tryz.func166.trans (Kv some (by kernel_rfl))
 f224:=Tryz.func173.trans (Kv some (by kernel_rfl))
 f225:=Tryz.func172.trans (Kv some (by kernel_rfl))
 f266:=Tryz.func175.trans (Kv some (by kernel_rfl))
 f267:=Tryz.func174.trans (Kv some (by kernel_rfl))
 f314:=Tryz.func176.trans (Kv some (by kernel_rfl))
 t3:=Tryz.underlying3
 a3:=Tryz.isAgg3
 z3:=Tryz.sizeOf3
 v3:=Tryz.zeroValue3
 t4:=Tryz.underlying4
 a4:=Tryz.isAgg4
 z4:=Tryz.sizeOf4
 v4:=Tryz.zeroValue4
 t5:=Tryz.underlying5
 a5:=Tryz.isAgg5
 z5:=Tryz.sizeOf5
 v5:=Tryz.zeroValue5
 t9:=Tryz.underlying9
 a9:=Tryz.isAgg9
 z9:=Tryz.sizeOf9
 v9:=Tryz.zeroValue9
 t46:=Tryz.underlying244
 a46:=Tryz.isAgg244
 z46:=Tryz.sizeOf244
 v46:=Tryz.zeroValue244
 t51:=Tryz.underlying245
 a51:=Tryz.isAgg245
 z51:=Tryz.sizeOf245
 v51:=Tryz.zeroValue245
 t146:=Tryz.underlying246
 a146:=Tryz.isAgg246
 z146:=Tryz.sizeOf246
 v146:=Tryz.zeroValue246
 g1:=by kernel_rfl }
end Go.Proofs
namespace Go.Proofs.YtmgjpakjlbofpaaGreat
open Go Go.Av Go.RowKit
set_option maxRecDepth 100000
def wm{S:aw}{β:List bw}{s:List UInt8}{r:List Value}{l:List AV}(hv:bc S β (.str s:: l) r):∃x r',r= .string x:: r'/\x.data.toList=s/\bc S β l r':=by
 simp only[bc,VR]at hv;obtain⟨v,r',rfl,⟨x,rfl,hx⟩,h⟩:=hv;exact⟨x,r',rfl,hx,h⟩
def HM(call:FuncId->List AV->M AV)(args:List AV)(h:Hp)(S:aw)(β:List bw)(w:World)(vs:List Value)(hr:jl call args h≠.fail)(hg:tA β h w)(hw:Wf S w)(hh:cD S β w h)(hv:bc S β args vs):
  Calls Tryz.prog 95 vs.toArray w (d7 none S β h w (jl call args h)):=by
 unfold jl at hr |-;split at hr
 ·rename_i s t;obtain⟨x,r,rfl,hx,hv⟩:=wm hv;obtain⟨y,r,rfl,hy,hv⟩:=wm hv;simp only[bc]at hv;subst hv;cases hc:decide (s.length<4294967281)with
  |false=>rw[hc]at hr;exact absurd rfl hr
  |true=>
   simp only[Kh];have hlen:x.size=s.length:=by rw[<- hx,Lo];rfl
   obtain⟨m,hm⟩:=hg.1.max;refine (Any.strings_Contains Kd x y m w (by have:=Mi hc;omega) hm).mono ?_;rintro e w' ⟨rfl,rfl⟩;exact lX hw hh (Below.refl _ _) EZ (by simp only[VR];rw[hx,hy])
 ·exact absurd rfl hr
end Go.Proofs.YtmgjpakjlbofpaaGreat
namespace Go.Proofs.YtmgjpakjlbofpaaGreat
open Go Go.Av Go.RowKit Go.Shelf
attribute [local go_sem] Oper.semAt_some
abbrev cI:=ByteArray×Int×(Option Addr×Nat×Nat)
def cI.k(x:cI):Value:=.int .i64 x.2.1
def cI.f(x:cI):Value:=.slice x.2.2.1 x.2.2.2.1 x.2.2.2.2
def xD(x:cI):Value:=.agg #[.string x.1,x.k,x.f]
def back(zs:List cI)(k:Nat):List (Nat×cI):=(List.range k).map fun j=>(zs.length-1-j,zs[zs.length-1-j]?.getD default)
def pe(zs:List cI)(k:Nat):back zs (k+1)=back zs k++[(zs.length-1-k,zs[zs.length-1-k]?.getD default)]:=by simp[back,List.range_succ]
def ry(zs:List cI)(k:Nat):(back zs k).length=k:=by simp[back]
def mS(W:World)(b off:Nat)(zs:List cI):Prop:=∀j,j<zs.length->W.cell? ⟨b,off+j*3,none⟩=some (.string (zs[j]?.getD default).1)/\W.cell? ⟨b,off+j*3+1,none⟩=some (zs[j]?.getD default).k/\W.cell? ⟨b,off+j*3+2,none⟩=some (zs[j]?.getD default).f
def mS.below{n₀:Nat}{A B:World}(h:Below n₀ A B){b off:Nat}(hb:b<n₀){zs:List cI}(c:mS A b off zs):mS B b off zs:=fun j hj=>by
 obtain⟨h1,h2,h3⟩:=c j hj;exact⟨(h.cell (p:=⟨b,_,none⟩) hb).trans h1,(h.cell (p:=⟨b,_,none⟩) hb).trans h2,(h.cell (p:=⟨b,_,none⟩) hb).trans h3⟩
set_option maxRecDepth 100000 in
set_option maxHeartbeats 2000000 in
def EH(F:Fence)(n:Nat)(h7:F.fn 167)(hro:F.round=none)(hn:1<=n)(l Bs n₀ b off cap:Nat)(zs:List cI)(hreach:zs.length<=1000000000)(hb:b<n₀)(hBn:Bs<n₀)(J Jx:List (Nat×cI)->World->Prop)
  (hY:∀pre x W,J pre W->pre.length<zs.length->YieldAt F (n-1) Tryz.prog l #[.int .i64 (x.1:Int),xD x.2] W fun e W'=>
   (e= .returned (.bool true)/\J (pre++[x]) W'/\Below n₀ W W')\/(e= .returned (.bool false)/\Jx (pre++[x]) W'))
  (W:World) (hBs:W.cell? ⟨Bs,0,none⟩=some (.slice (some ⟨b,off,none⟩) zs.length cap)) (hc:mS W b off zs) (h0:J [] W):
  CallsIn F n Tryz.prog 167 #[.func (.yield l) #[] #[],.pointer (some ⟨Bs,0,none⟩)] W fun e W'=>(∃v,e= .returned v)/\
   ((∃ys,ys=back zs zs.length/\J ys W')\/(∃pre,(∃k,k<=zs.length/\pre=back zs k)/\Jx pre W')):=by
 refine callsIn_of_wp Tryz.func167 rfl h7 ?_ hro;simp only[Tryz.ntmps167,Ls,K4,K5,Nat.reduceAdd,Nat.reduceSub,L4,L5,Mj,Ma,KL,KW]
 gi_wp2
 gi_loopw [3] (fun i wr=>∃k:Nat,k<=zs.length/\i= .int .i64 ((zs.length:Int)-1-k)/\J (back zs k) wr/\Below n₀ W wr)
  (fun i _=>(intOf i+1).toNat)
 case atStart=>exact⟨0,LF _,by simp,h0,Below.refl _ _⟩
 case round=>
  obtain⟨k,hk,rfl,hJs,hnx⟩:=hrel;have hbs:wr.cell? ⟨Bs,0,none⟩=some (.slice (some ⟨b,off,none⟩) zs.length cap):=(hnx.cell (p:=⟨Bs,0,none⟩) hBn).trans hBs;by_cases hlt:k<zs.length
  ·obtain⟨fn,tmps,assign,body,hy,hR⟩:=hY _ (zs.length-1-k,zs[zs.length-1-k]?.getD default) wr hJs (by rw[ry];exact hlt);dsimp only at hy;obtain⟨m,hm⟩:∃m:Nat,(zs.length:Int)-1-k=m:=⟨zs.length-1-k,by omega⟩;have hm':zs.length-1-k=m:=by omega
   rw[hm']at hy hR;rw[hm];obtain⟨c1,c2,c3⟩:=(hc.below hnx hb) m (by omega);generalize hz:zs[m]?.getD default=z at hy hR c1 c2 c3;obtain⟨z1,z2,z3,z4,z5⟩:=z;have hml:m<zs.length:=by omega
   simp only[xD,cI.k,cI.f]at hy c2 c3
   gi_wp2
   refine hR.mono ?_;rintro e W3 (⟨rfl,hJ3,hk3⟩|⟨rfl,hJx3⟩)
   ·gi_wp2
    go_roundw
    case rel=>exact⟨k+1,by omega,by congr 1;omega,by rw[pe,hm',hz];exact hJ3,hnx.trans hk3⟩
    case measure=>simp[intOf]<;>omega
   ·gi_wp2
    refine bodyPost_ret (results_none rfl _ _ _) rfl ?_;exact⟨⟨_,rfl⟩,.inr ⟨_,⟨k+1,by omega,by rw[pe,hm',hz]⟩,hJx3⟩⟩
  ·obtain rfl:k=zs.length:=by omega
   gi_wp2
   go_end0
   exact⟨⟨_,rfl⟩,.inl ⟨_,rfl,hJs⟩⟩
set_option maxRecDepth 100000 in
set_option maxHeartbeats 1000000 in
def uw(F:Fence)(n:Nat)(h7:F.fn 167)(hro:F.round=none)(l Bs:Nat)(p:Option Addr)(cap:Nat)(J:List (Nat×cI)->World->Prop)(W:World)(hBs:W.cell? ⟨Bs,0,none⟩=some (.slice p 0 cap))(h0:J [] W):
  CallsIn F n Tryz.prog 167 #[.func (.yield l) #[] #[],.pointer (some ⟨Bs,0,none⟩)] W fun e W'=>(∃v,e= .returned v)/\J [] W':=by
 refine callsIn_of_wp Tryz.func167 rfl h7 ?_ hro;simp only[Tryz.ntmps167,Ls,K4,K5,Nat.reduceAdd,Nat.reduceSub,L4,L5,Mj,Ma,KL,KW]
 gi_wp2
 gi_loopw [3] (fun i wr=>i= .int .i64 (-1)/\J [] wr) (fun _ _=>0)
 case atStart=>exact⟨rfl,h0⟩
 case round=>
  obtain⟨rfl,hJs⟩:=hrel
  gi_wp2
  go_end0
  exact⟨⟨_,rfl⟩,hJs⟩
set_option maxHeartbeats 1000000 in
def HF(F:Fence)(n:Nat)(h5:F.fn 157)(hro:F.round=none)(a:Option Addr)(len cap:Nat)(w:World):
  CallsIn F n Tryz.prog 157 #[.slice a len cap] w fun e w'=>e= .returned (.func (.func 167) #[] #[.pointer (some ⟨w.heap.size,0,none⟩)])/\w'=w.alloc (.cells #[.slice a len cap] 28):=by
 refine callsIn_of_wp Tryz.func157 rfl h5 ?_ hro;simp only[Tryz.ntmps157,Ls,K4,K5,Nat.reduceAdd,Nat.reduceSub,L4,L5,Mj,Ma,KL,KW]
 gi_wp2
 go_ret
 exact⟨rfl,rfl⟩
def kc(n₀:Nat)(W:World)(sv:Value)(zs:List cI):Prop:=
 (zs=[]/\∃p cap,sv= .slice p 0 cap)\/∃b off cap,sv= .slice (some ⟨b,off,none⟩) zs.length cap/\b<n₀/\mS W b off zs
theorem kc.below{n₀:Nat}{A B:World}(h:Below n₀ A B){sv:Value}{zs:List cI}:kc n₀ A sv zs->kc n₀ B sv zs
 |.inl e=>.inl e
 |.inr ⟨b,off,cap,e,hb,hc⟩=>.inr ⟨b,off,cap,e,hb,hc.below h hb⟩
theorem kc.mono{n n':Nat}(h:n<=n'){W:World}{sv:Value}{zs:List cI}:kc n W sv zs->kc n' W sv zs
 |.inl e=>.inl e
 |.inr ⟨b,off,cap,e,hb,hc⟩=>.inr ⟨b,off,cap,e,KR hb h,hc⟩
def zj(F:Fence)(n:Nat)(h8:F.fn 167)(hro:F.round=none)(hn:1<=n)(Bs:Nat)(sv:Value)(zs:List cI)(hreach:zs.length<=1000000000)(w:World)(hBs:Bs<w.heap.size)(hc:w.cell? ⟨Bs,0,none⟩=some sv)(hI:kc w.heap.size w sv zs):
  SeqStopsK F n Tryz.prog 167 #[.pointer (some ⟨Bs,0,none⟩)] (fun x:Nat×cI=>#[Value.int .i64 (x.1:Int),xD x.2]) (Below w.heap.size) (fun ys=>ys=back zs zs.length)
   (fun pre=>∃k,k<=zs.length/\pre=back zs k) zs.length w:=fun l J Jx W hW _ _ hY h0=>by
 have hc':=(hW.cell (p:=⟨Bs,0,none⟩) hBs).trans hc;rcases hI.below hW with⟨rfl,p,cap,rfl⟩|⟨b,off,cap,rfl,hb,hcs⟩
 ·exact (uw F n h8 hro l Bs p cap J W hc' h0).mono fun e W' ⟨he,hj⟩=>⟨he,.inl ⟨_,rfl,hj⟩⟩
 ·exact EH F n h8 hro hn l Bs w.heap.size b off cap zs hreach hb hBs J Jx hY W hc' hcs h0
def lB(zs:List cI)(x:ByteArray):Option cI:=zs.reverse.find? fun z=>decide (z.1=x)
def qC(zs:List cI)(x:ByteArray)(z0 z1:Value):Value:=match lB zs x with
 |some z=>.tuple #[.agg #[z.k,z.f],.bool true]
 |none=>.tuple #[.agg #[z0,z1],.bool false]
def rA(zs:List cI){k:Nat}(hk:k<=zs.length):(back zs k).map (·.2)=zs.reverse.take k:=by
 apply List.ext_getElem
 ·simp[back,hk]
 ·intro i h1 h2;have hi:i<k:=by simpa [back]using h1
  have h3:zs.length-1-i<zs.length:=by omega
  simp[back,h3]
def sF{zs:List cI}{x:ByteArray}(h:∀p∈back zs zs.length,p.2.1≠x):lB zs x=none:=by
 unfold lB;rw[List.find?_eq_none];intro z hz;have hm:=rA zs (Kk _);rw[LL (by simp)]at hm;rw[<- hm]at hz;obtain⟨p,hp,rfl⟩:=Ly.1 hz;simpa using h p hp
def sG{zs:List cI}{x:ByteArray}{k:Nat}(hk:k<=zs.length){ini:List (Nat×cI)}{last:Nat×cI}(e1:back zs k=ini++[last])(e2:∀p∈ini,p.2.1≠x)(e3:last.2.1=x):lB zs x=some last.2:=by
 have hm:=rA zs hk;rw[e1,Mv]at hm;unfold lB;rw[<- List.take_append_drop k zs.reverse,<- hm,Ld,List.find?_append];have h1:(ini.map (·.2)).find? (fun z=>decide (z.1=x))=none:=by
  rw[List.find?_eq_none];intro z hz;obtain⟨p,hp,rfl⟩:=Ly.1 hz;simpa using e2 p hp
 rw[h1];simp[e3]
def cg(W:World)(B:Nat)(t:TypeId)(cs:Array Value):Prop:=W.heap[B]? = some (.cells cs t (0,0))
def cg.lt{W:World}{B:Nat}{t:TypeId}{cs:Array Value}(h:cg W B t cs):B<W.heap.size:=(KT.1 h).1
def cg.cell{W:World}{B:Nat}{t:TypeId}{cs:Array Value}(h:cg W B t cs)(o:Nat):W.cell? ⟨B,o,none⟩=cs[o]?:=by simp[World.cell?,show W.heap[B]? = _ from h]
def cg.frozen{W:World}{B:Nat}{t:TypeId}{cs:Array Value}(h:cg W B t cs)(o:Nat):W.frozen? ⟨B,o,none⟩=false:=by simp[World.frozen?,show W.heap[B]? = _ from h]
def cg.new(W:World)(t:TypeId)(cs:Array Value):cg (W.alloc (.cells cs t)) W.heap.size t cs:=World.alloc_heap_new W _
def cg.kept{W W':World}{row:Option Nat}{B:Nat}{t:TypeId}{cs:Array Value}(h:cg W B t cs)(hg:W.grownBy W' row)(hne:some B≠row):cg W' B t cs:=(hg.block B h.lt hne).trans h
def cg.alloc{W:World}{B:Nat}{t:TypeId}{cs:Array Value}(h:cg W B t cs)(o:Obj):cg (W.alloc o) B t cs:=h.kept (World.grownBy_alloc W o none) (by simp)
def cg.put{W:World}{B:Nat}{t:TypeId}{cs:Array Value}(h:cg W B t cs){l:Nat}{o:Obj}(o':Obj)(hl:W.heap[l]? = some o)(ho:o.isCells=false):cg (W.putObj l o') B t cs:=
 h.kept (grownBy_putObj' W l o') (fun e=>by cases e;rw[show W.heap[B]? = _ from h]at hl;cases hl;cases ho)
def oV(W:World)(b o:Nat)(v:Value):W.grownBy (W.setCell ⟨b,o,none⟩ v) (some b):=
 ⟨rfl,rfl,rfl,(KeepsWalks.setCell W _ v).size,fun k _ hk=>Below.heap_setCell _ _ _ k (fun e=>hk (by rw[e]))⟩
def cg.other{W:World}{B B' o:Nat}{t:TypeId}{cs:Array Value}(h:cg W B t cs)(hne:B≠B')(u:Value):cg (W.setCell ⟨B',o,none⟩ u) B t cs:=h.kept (oV W B' o u) (fun e=>hne (by cases e;rfl))
def cg.set{W:World}{B:Nat}{t:TypeId}{cs:Array Value}(h:cg W B t cs)(o:Nat)(v:Value):cg (W.setCell ⟨B,o,none⟩ v) B t (cs.setIfInBounds o v):=by
 obtain⟨hlt,hk⟩:=KT.1 h;show (W.heap.modify B _)[B]? = _;rw[Lm (by rw[Array.size_modify];exact hlt),Array.getElem_modify_self,hk];rfl
def yw{x y:ByteArray}(h:(x.toList== y.toList)=true):x=y:=by
 have:=Lj.1 h
 rw[ByteArray.toList_eq,ByteArray.toList_eq]at this;exact ByteArray.ext (LK this)
def yx{x y:ByteArray}(h:(x.toList== y.toList)=false):x≠y:=by
 rintro rfl;simp at h
def eL{β:Type}(B:Nat)(t:TypeId)(f:β->Array Value):Own (fun s W=>cg W B t (f s)):=fun s X Y row hs hg hrow=>
 hs.kept hg (fun e'=>by obtain⟨o,ho,hc⟩:=hrow B e'.symm;rw[show X.heap[B]? = _ from hs]at ho;cases ho;cases hc)
set_option maxRecDepth 100000 in
set_option maxHeartbeats 4000000 in
def Be(F:Fence)(n:Nat)(h3:F.fn 117)(h5:F.fn 157)(h7:F.fn 167)(hro:F.round=none)(hn:3<=n)(a:Option Addr)(len cap:Nat)(x:ByteArray)(zs:List cI)(hreach:zs.length<=1000000000)(w:World)(hI:kc w.heap.size w (.slice a len cap) zs):
  CallsIn F n Tryz.prog 117 #[.slice a len cap,.string x] w fun e W'=>e= .returned (qC zs x (.int .i64 0) (.slice none 0 0))/\Below w.heap.size w W':=by
 have h1:1<=n:=by omega
 refine callsIn_of_wp_marks Tryz.func117 rfl h3 ?_ hro;simp only[Tryz.ntmps117,Ls,K4,K5,Nat.reduceAdd,Nat.reduceSub,L4,L5,Mj,Ma,KL,KW]
 gi_wp2_with (gi_at_call 157;refine (HF F (n-1) h5 hro _ _ _ _).mono ?_;rintro e w' ⟨rfl,rfl⟩)
 have b0:=(((cg.new w 9 #[.string x]).alloc (.cells #[.int .i64 0,.slice none 0 0] 57)).alloc (.cells #[.bool false] 4)).alloc (.cells #[.slice a len cap] 28);have b1:=((cg.new (w.alloc (.cells #[.string x] 9)) 57 #[.int .i64 0,.slice none 0 0]).alloc (.cells #[.bool false] 4)).alloc (.cells #[.slice a len cap] 28);have b2:=(cg.new ((w.alloc (.cells #[.string x] 9)).alloc (.cells #[.int .i64 0,.slice none 0 0] 57)) 4 #[.bool false]).alloc (.cells #[.slice a len cap] 28);have b3:=cg.new (((w.alloc (.cells #[.string x] 9)).alloc (.cells #[.int .i64 0,.slice none 0 0] 57)).alloc (.cells #[.bool false] 4)) 28 #[.slice a len cap];simp only[World.size_alloc]at b1 b2 b3;have hB0:Below w.heap.size w ((((w.alloc (.cells #[.string x] 9)).alloc (.cells #[.int .i64 0,.slice none 0 0] 57)).alloc (.cells #[.bool false] 4)).alloc (.cells #[.slice a len cap] 28)):=
  ((((Below.refl _ w).alloc (Kk _) _).alloc (by simp) _).alloc (by simp;omega) _).alloc (by simp;omega) _
 have hsz:((((w.alloc (.cells #[.string x] 9)).alloc (.cells #[.int .i64 0,.slice none 0 0] 57)).alloc (.cells #[.bool false] 4)).alloc (.cells #[.slice a len cap] 28)).heap.size=w.heap.size+4:=by simp
 obtain⟨W0,hW0⟩:∃W0,((((w.alloc (.cells #[.string x] 9)).alloc (.cells #[.int .i64 0,.slice none 0 0] 57)).alloc (.cells #[.bool false] 4)).alloc (.cells #[.slice a len cap] 28))=W0:=⟨_,rfl⟩;rw[hW0]at b0 b1 b2 b3 hB0 hsz |-;clear hW0;refine wpIn_rangeFunc_ownH hro h1 (gf:=167) (lb:=#[.pointer (some ⟨w.heap.size+1+1+1,0,none⟩)]) rfl h7 (enters_of Tryz.func167 (by kernel_rfl) rfl)
  (zj F (n-1) h7 hro (by omega) (w.heap.size+1+1+1) _ zs hreach W0 (by omega) (b3.cell 0) ((hI.below hB0).mono (by omega))) belowK_t (belowK_b (Kk _)) (Below.refl _ _) (fun _=>rfl)
  (fun pre W=>(∀p∈pre,p.2.1≠x)/\(cg W w.heap.size 9 #[.string x]/\cg W (w.heap.size+1) 57 #[.int .i64 0,.slice none 0 0]/\cg W (w.heap.size+1+1) 4 #[.bool false]/\cg W (w.heap.size+1+1+1) 28 #[.slice a len cap])/\Below w.heap.size w W)
  (fun c pre W=>(c= .ret/\∃ini last,pre=ini++[last]/\(∀p∈ini,p.2.1≠x)/\last.2.1=x/\cg W (w.heap.size+1) 57 #[last.2.k,last.2.f]/\cg W (w.heap.size+1+1) 4 #[.bool true])/\Below w.heap.size w W)
  ?hI ?hIx ⟨fun _ h=>(by cases h),⟨b0,b1,b2,b3⟩,hB0⟩
  (fun y a' W=>∃Bx,cg W Bx 66 #[.string y.2.1,y.2.k,y.2.f]/\a'= { tmps:=#[.slice a len cap,.string x,undef,.pointer (some ⟨w.heap.size,0,none⟩),.pointer (some ⟨w.heap.size+1,0,none⟩),.pointer (some ⟨w.heap.size+1+1,0,none⟩),undef,.pointer (some ⟨Bx,0,none⟩),.slice a len cap,.func (.func 167) #[] #[.pointer (some ⟨w.heap.size+1+1+1,0,none⟩)],.int .i64 (y.1:Int),xD y.2,undef,undef,undef,undef,undef,undef,undef],defers:=[] })
  (fun y a' _ X Y row hs hg hr=>by obtain⟨Bx,h2,h3⟩:=hs;exact⟨Bx,eL Bx 66 (fun(_:Unit)=>#[Value.string y.2.1,y.2.k,y.2.f]) () X Y row h2 hg (fun r e=>(hr r e).2),h3⟩)
  ?assign ?body ?done ?stop
 case hI=>exact OwnFrom.and (ownFrom_pure _ _) (OwnFrom.and (OwnFrom.and (Own.from (eL _ _ _) _) (OwnFrom.and (Own.from (eL _ _ _) _) (OwnFrom.and (Own.from (eL _ _ _) _) (Own.from (eL _ _ _) _)))) (ownFrom_below (Kk _) (by omega)))
 case hIx=>
  intro c;refine OwnFrom.and (Own.from (fun s A B row hs hg hr=>?_) _) (ownFrom_below (Kk _) (by omega));obtain⟨hc,ini,last,e1,e2,e3,e4,e5⟩:=hs;exact⟨hc,ini,last,e1,e2,e3,eL _ _ (fun(_:Unit)=>#[last.2.k,last.2.f]) () A B row e4 hg hr,eL _ _ (fun(_:Unit)=>#[Value.bool true]) () A B row e5 hg hr⟩
 case assign=>
  rintro l pre y W K ⟨hp,⟨r0,r1,r2,r3⟩,hB⟩ hK;obtain⟨yi,y1,y2,y3,y4,y5⟩:=y;simp only[xD,cI.k,cI.f]at hK |-
  gi_wp2
  exact hK _ _ ((KeepsOthers.alloc _ _).from _) ((Below.refl _ W).alloc (by have:=r3.lt;omega) _) ⟨hp,⟨r0.alloc _,r1.alloc _,r2.alloc _,r3.alloc _⟩,hB.alloc hB.size _⟩ ⟨W.heap.size,cg.new W _ _,rfl⟩
 case body=>
  rintro l pre y a' W hl ⟨r,hr⟩ ⟨hp,⟨r0,r1,r2,r3⟩,hB⟩ ⟨Bx,rx,rfl⟩ hlt;obtain⟨yi,y1,y2,y3,y4,y5⟩:=y;simp only[xD,cI.k,cI.f]at rx |-;have c0:=r0.cell 0;have rO:=rx.cell 0;have cx1:=rx.cell 1;have cx2:=rx.cell 2;have f10:=r1.frozen 0;have f11:=r1.frozen 1;have f20:=r2.frozen 0;have c10:=r1.cell 0;have c11:=r1.cell 1;have c20:=r2.cell 0;simp at c0 rO cx1 cx2 c10 c11 c20
  gi_wp2
  ·have hx:y1=x:=yw (by assumption);have r1':=((r1.set 0 (.int .i64 y2)).set 1 (.slice y3 y4 y5)).other (B':=w.heap.size+1+1) (o:=0) (by omega) (.bool true);have r2':=((r2.other (B':=w.heap.size+1) (o:=0) (by omega) (.int .i64 y2)).other (B':=w.heap.size+1) (o:=1) (by omega) (.slice y3 y4 y5)).set 0 (.bool true);exact⟨(((KeepsOthers.setCell _ _ _).trans (KeepsOthers.setCell _ _ _)).trans (KeepsOthers.setCell _ _ _)).from _,⟨rfl,pre,(yi,y1,y2,y3,y4,y5),rfl,hp,hx,r1',r2'⟩,
    ((hB.setCell (p:=⟨w.heap.size+1,0,none⟩) (by simp) _).setCell (p:=⟨w.heap.size+1,1,none⟩) (by simp) _).setCell (p:=⟨w.heap.size+1+1,0,none⟩) (by simp;omega) _⟩
  ·have hx:y1≠x:=yx (by assumption);exact⟨KeepsFrom.refl _ _,Below.refl _ _,fun p hp'=>(KG.1 hp').elim (hp p) (fun e=>by simp at e;subst e;exact hx),⟨r0,r1,r2,r3⟩,hB⟩
 case done=>
  rintro D ys W hD rfl ⟨hne,⟨r0,r1,r2,r3⟩,hB⟩ hK;have f10:=r1.frozen 0;have f11:=r1.frozen 1;have f20:=r2.frozen 0;have c10:=r1.cell 0;have c11:=r1.cell 1;have c20:=r2.cell 0;simp at c10 c11 c20
  gi_wp2
  have r1':=((r1.set 0 (.int .i64 0)).set 1 (.slice none 0 0)).other (B':=w.heap.size+1+1) (o:=0) (by omega) (.bool false);have r2':=((r2.other (B':=w.heap.size+1) (o:=0) (by omega) (.int .i64 0)).other (B':=w.heap.size+1) (o:=1) (by omega) (.slice none 0 0)).set 0 (.bool false);have hB':=((hB.setCell (p:=⟨w.heap.size+1,0,none⟩) (by simp) (.int .i64 0)).setCell (p:=⟨w.heap.size+1,1,none⟩) (by simp) (.slice none 0 0)).setCell (p:=⟨w.heap.size+1+1,0,none⟩) (by simp;omega) (.bool false);have hK':=(((KeepsOthers.setCell W ⟨w.heap.size+1,0,none⟩ (.int .i64 0)).trans (KeepsOthers.setCell _ ⟨w.heap.size+1,1,none⟩ (.slice none 0 0))).trans (KeepsOthers.setCell _ ⟨w.heap.size+1+1,0,none⟩ (.bool false))).same D _ hK rfl;refine⟨by simp,.inl ⟨_,_,rfl,run_takeDeferred hK',?_⟩⟩;have q10:=(r1'.put (.deferred none) hK' rfl).cell 0;have q11:=(r1'.put (.deferred none) hK' rfl).cell 1;have q20:=(r2'.put (.deferred none) hK' rfl).cell 0;simp at q10 q11 q20;refine⟨.tuple #[.agg #[.int .i64 0,.slice none 0 0],.bool false],?_,?_,hB'.trans (belowK_b (w:=w) (Kk _) _ D _ _ (by omega) hK' rfl rfl)⟩
  rotate_left
  ·unfold qC;rw[sF hne]
  ·simp[results,Tryz.f117,go_sem,q10,q11,q20]
 case stop=>
  rintro D c pre W hD ⟨k,hk,rfl⟩ ⟨⟨rfl,ini,last,e1,e2,e3,r1,r2⟩,hB⟩ hK
  gi_wp2
  refine⟨by simp,.inl ⟨_,_,rfl,run_takeDeferred hK,?_⟩⟩;have q10:=(r1.put (.deferred none) hK rfl).cell 0;have q11:=(r1.put (.deferred none) hK rfl).cell 1;have q20:=(r2.put (.deferred none) hK rfl).cell 0;simp at q10 q11 q20;refine⟨.tuple #[.agg #[last.2.k,last.2.f],.bool true],?_,?_,hB.trans (belowK_b (w:=w) (Kk _) W D _ _ (by omega) hK rfl rfl)⟩
  rotate_left
  ·unfold qC;rw[sG hk e1 e2 e3]
  ·simp[results,Tryz.f117,go_sem,q10,q11,q20]
end Go.Proofs.YtmgjpakjlbofpaaGreat
