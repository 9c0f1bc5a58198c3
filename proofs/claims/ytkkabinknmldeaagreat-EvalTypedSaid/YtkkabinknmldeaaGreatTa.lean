/- What the functions of the seat compute, part 1: the texts of the claim, one behind the other. Conditions: bounds, as each theorem names them. -/
import Derived.Test.YtkkabinknmldeaaGreatLc
import Derived.Test.YtkkabinknmldeaaGreatProg
import Derived.Tactics
import Derived.Tactics2
import Derived.Defers
import Derived.Recover
import Derived.Shelf.SlGeneric
import Derived.Shelf.Strings.Search3
import Derived.Ground.SlsfProg
import Derived.Ground.NamesProg
import Derived.RangeFuncNested
import Derived.RangeFuncBound
import Derived.RangeFuncCalls
import Derived.RangeFuncLeaves
import Derived.RangeFuncBox
import Derived.Shelf.Abstract
import Derived.Shelf.RegionOpen
import Derived.OwnWalkIn
import Derived.TacticsInMore
import Derived.LoopNIn
import Derived.LoopIn
set_option linter.unusedSimpArgs false
set_option linter.unusedVariables false
namespace Go.Proofs.YtkkabinknmldeaaGreat
open Go Go.Av Go.Av.Ap
abbrev CC:=FuncId→List AV→M AV
abbrev RR:=List AV→M AV
theorem lb{α β:Type}{m:M α}{f:α→M β}{fs:Nat→α→M β}(hf:bg f fs):aJ (ae m f) fun n=>ae m (fs n):=aJ.bnd (aJ.const _) hf
abbrev vN(l:List Nat):List (Nat×Option Nat):=l.map fun x=>(x,none)
abbrev tF:TI:=TI.mk false 1 8 .func [] [.nilf] false
noncomputable def tab:List (Nat×TI):=[
(0,(TI.mk false 1 0 .other [] [.any] false)),
(1,tF),
(2,(TI.mk false 1 8 (.int .i64) [] [.int .i64 0] false)),
(3,(TI.mk false 1 8 (.int .i64) [] [.int .i64 0] false)),
(4,(TI.mk false 1 1 .bool [] [.bool false] false)),
(5,(TI.mk false 1 1 (.int .u8) [] [.int .u8 0] false)),
(6,(TI.mk false 1 1 (.int .u8) [] [.int .u8 0] false)),
(7,(TI.mk true 4 24 .struct [(0,((2,true))),(1,((3,true))),(2,((4,true))),(3,((6,true)))] [.int .i64 0,.int .i64 0,.bool false,.int .u8 0] true)),
(8,(TI.mk true 4 24 .struct [(0,((2,true))),(1,((3,true))),(2,((4,true))),(3,((6,true)))] [.int .i64 0,.int .i64 0,.bool false,.int .u8 0] true)),
(9,(TI.mk false 1 16 .str [] [.str []] false)),
(10,(TI.mk false 1 16 .str [] [.str []] false)),
(11,(TI.mk false 1 16 .str [] [.str []] false)),
(12,(TI.mk false 1 8 (.int .u64) [] [.int .u64 0] false)),
(13,(TI.mk true 2 24 .struct [(0,((9,true))),(1,((12,true)))] [.str [],.int .u64 0] false)),
(14,(TI.mk true 2 24 .struct [(0,((9,true))),(1,((12,true)))] [.str [],.int .u64 0] false)),
(15,(TI.mk false 1 8 .ptr [] [.nilp] false)),
(16,(TI.mk false 1 8 .ptr [] [.nilp] false)),
(17,(TI.mk false 1 8 .ptr [] [.nilp] false)),
(18,(TI.mk true 1 8 .struct [(0,((17,true)))] [.nilp] false)),
(19,(TI.mk true 1 8 .struct [(0,((17,true)))] [.nilp] false)),
(20,(TI.mk false 1 16 .iface [] [.nili] false)),
(21,(TI.mk false 1 4 (.int .i32) [] [.int .i32 0] false)),
(22,(TI.mk false 1 24 (.slice 9) [] [.sl []] false)),
(23,(TI.mk false 1 24 (.slice 87) [] [.sl []] false)),
(24,(TI.mk false 1 24 (.slice 74) [] [.sl []] false)),
(25,(TI.mk false 1 24 (.slice 76) [] [.sl []] false)),
(26,(TI.mk true 3 72 .struct [(0,((23,true))),(1,((24,true))),(2,((24,true)))] [.sl [],.sl [],.sl []] true)),
(27,(TI.mk true 3 72 .struct [(0,((23,true))),(1,((24,true))),(2,((24,true)))] [.sl [],.sl [],.sl []] true)),
(28,(TI.mk true 9 192 .struct [(0,((9,true))),(1,((22,true))),(2,((23,true))),(3,((24,true))),(4,((25,true))),(5,((4,true))),(6,((27,true)))] [.str [],.sl [],.sl [],.sl [],.sl [],.bool false,.sl [],.sl [],.sl []] true)),
(29,(TI.mk true 9 192 .struct [(0,((9,true))),(1,((22,true))),(2,((23,true))),(3,((24,true))),(4,((25,true))),(5,((4,true))),(6,((27,true)))] [.str [],.sl [],.sl [],.sl [],.sl [],.bool false,.sl [],.sl [],.sl []] true)),
(30,(TI.mk false 1 24 (.slice 69) [] [.sl []] false)),
(31,tF),
(32,tF),
(33,(TI.mk false 1 8 (.int .i64) [] [.int .i64 0] false)),
(34,(TI.mk false 1 0 .other [] [.any] false)),
(35,tF),
(36,(TI.mk false 1 0 .other [] [.any] false)),
(37,tF),
(38,tF),
(39,tF),
(40,tF),
(41,tF),
(42,(TI.mk false 1 24 (.slice 29) [] [.sl []] false)),
(43,(TI.mk false 1 24 (.slice 49) [] [.sl []] false)),
(44,(TI.mk false 1 24 (.slice 3) [] [.sl []] false)),
(45,(TI.mk false 1 24 (.slice 55) [] [.sl []] false)),
(46,tF),
(47,(TI.mk false 1 24 (.slice 51) [] [.sl []] false)),
(48,(TI.mk true 3 56 .struct [(0,((9,true))),(1,((9,true))),(2,((47,true)))] [.str [],.str [],.sl []] true)),
(49,(TI.mk true 3 56 .struct [(0,((9,true))),(1,((9,true))),(2,((47,true)))] [.str [],.str [],.sl []] true)),
(50,(TI.mk true 4 64 .struct [(0,((3,true))),(1,((3,true))),(2,((22,true))),(3,((47,true)))] [.int .i64 0,.int .i64 0,.sl [],.sl []] true)),
(51,(TI.mk true 4 64 .struct [(0,((3,true))),(1,((3,true))),(2,((22,true))),(3,((47,true)))] [.int .i64 0,.int .i64 0,.sl [],.sl []] true)),
(52,(TI.mk false 1 24 (.slice 60) [] [.sl []] false)),
(53,(TI.mk false 1 24 (.slice 62) [] [.sl []] false)),
(54,(TI.mk true 8 144 .struct [(0,((33,true))),(1,((51,true))),(5,((52,true))),(6,((43,true))),(7,((53,true)))] [.int .i64 0,.int .i64 0,.int .i64 0,.sl [],.sl [],.sl [],.sl [],.sl []] true)),
(55,(TI.mk true 8 144 .struct [(0,((33,true))),(1,((51,true))),(5,((52,true))),(6,((43,true))),(7,((53,true)))] [.int .i64 0,.int .i64 0,.int .i64 0,.sl [],.sl [],.sl [],.sl [],.sl []] true)),
(56,tF),
(57,(TI.mk false 1 0 .other [] [.any] false)),
(58,tF),
(59,(TI.mk true 3 24 .struct [(0,((3,true))),(1,((3,true))),(2,((3,true)))] [.int .i64 0,.int .i64 0,.int .i64 0] true)),
(60,(TI.mk true 3 24 .struct [(0,((3,true))),(1,((3,true))),(2,((3,true)))] [.int .i64 0,.int .i64 0,.int .i64 0] true)),
(61,(TI.mk true 2 40 .struct [(0,((9,true))),(1,((47,true)))] [.str [],.sl []] true)),
(62,(TI.mk true 2 40 .struct [(0,((9,true))),(1,((47,true)))] [.str [],.sl []] true)),
(63,tF),
(64,(TI.mk true 2 32 .struct [(0,((9,true))),(1,((9,true)))] [.str [],.str []] true)),
(65,(TI.mk true 2 32 .struct [(0,((9,true))),(1,((9,true)))] [.str [],.str []] true)),
(66,tF),
(67,(TI.mk false 1 24 (.slice 150) [] [.sl []] false)),
(68,(TI.mk true 2 40 .struct [(0,((9,true))),(1,((67,true)))] [.str [],.sl []] true)),
(69,(TI.mk true 2 40 .struct [(0,((9,true))),(1,((67,true)))] [.str [],.sl []] true)),
(70,tF),
(71,(TI.mk true 2 32 .struct [(0,((3,true))),(1,((23,true)))] [.int .i64 0,.sl []] true)),
(72,(TI.mk true 2 32 .struct [(0,((3,true))),(1,((23,true)))] [.int .i64 0,.sl []] true)),
(73,(TI.mk true 6 96 .struct [(0,((3,true))),(1,((3,true))),(2,((9,true))),(3,((9,true))),(4,((22,true))),(5,((24,true)))] [.int .i64 0,.int .i64 0,.str [],.str [],.sl [],.sl []] true)),
(74,(TI.mk true 6 96 .struct [(0,((3,true))),(1,((3,true))),(2,((9,true))),(3,((9,true))),(4,((22,true))),(5,((24,true)))] [.int .i64 0,.int .i64 0,.str [],.str [],.sl [],.sl []] true)),
(75,(TI.mk true 12 184 .struct [(0,((9,true))),(1,((4,true))),(2,((23,true))),(3,((72,true))),(5,((3,true))),(6,((74,true)))] [.str [],.bool false,.sl [],.int .i64 0,.sl [],.int .i64 0,.int .i64 0,.int .i64 0,.str [],.str [],.sl [],.sl []] true)),
(76,(TI.mk true 12 184 .struct [(0,((9,true))),(1,((4,true))),(2,((23,true))),(3,((72,true))),(5,((3,true))),(6,((74,true)))] [.str [],.bool false,.sl [],.int .i64 0,.sl [],.int .i64 0,.int .i64 0,.int .i64 0,.str [],.str [],.sl [],.sl []] true)),
(77,(TI.mk false 1 0 .other [] [.any] false)),
(78,tF),
(79,(TI.mk false 1 24 (.slice 65) [] [.sl []] false)),
(80,tF),
(81,tF),
(82,tF),
(83,tF),
(84,tF),
(85,tF),
(86,(TI.mk true 3 48 .struct [(0,((9,true))),(1,((72,true)))] [.str [],.int .i64 0,.sl []] true)),
(87,(TI.mk true 3 48 .struct [(0,((9,true))),(1,((72,true)))] [.str [],.int .i64 0,.sl []] true)),
(88,tF),
(89,(TI.mk false 1 24 (.slice 177) [] [.sl []] false)),
(90,(TI.mk true 4 80 .struct [(0,((42,true))),(1,((89,true))),(2,((43,true))),(3,((4,true)))] [.sl [],.sl [],.sl [],.bool false] true)),
(91,(TI.mk true 4 80 .struct [(0,((42,true))),(1,((89,true))),(2,((43,true))),(3,((4,true)))] [.sl [],.sl [],.sl [],.bool false] true)),
(92,(TI.mk false 1 24 (.slice 272) [] [.sl []] false)),
(93,(TI.mk true 10 160 .struct [(0,((3,true))),(1,((9,true))),(2,((92,true))),(3,((9,true))),(4,((74,true)))] [.int .i64 0,.str [],.sl [],.str [],.int .i64 0,.int .i64 0,.str [],.str [],.sl [],.sl []] true)),
(94,(TI.mk true 10 160 .struct [(0,((3,true))),(1,((9,true))),(2,((92,true))),(3,((9,true))),(4,((74,true)))] [.int .i64 0,.str [],.sl [],.str [],.int .i64 0,.int .i64 0,.str [],.str [],.sl [],.sl []] true)),
(95,tF),
(96,tF),
(97,(TI.mk false 1 0 .other [] [.any] false)),
(98,tF),
(99,tF),
(100,tF),
(101,tF),
(102,tF),
(103,tF),
(104,tF),
(105,tF),
(106,tF),
(107,tF),
(108,tF),
(109,tF),
(110,tF),
(111,tF),
(112,(TI.mk false 1 0 .other [] [.any] false)),
(113,tF),
(114,(TI.mk false 1 8 .ptr [] [.nilp] false)),
(115,(TI.mk false 1 0 .other [] [.any] false)),
(116,tF),
(117,(TI.mk false 1 0 .other [] [.any] false)),
(118,(TI.mk false 1 8 (.map 9 69) [] [.nilm] false)),
(119,(TI.mk true 11 208 .struct [(0,((29,true))),(9,((118,true))),(10,((3,true)))] [.str [],.sl [],.sl [],.sl [],.sl [],.bool false,.sl [],.sl [],.sl [],.nilm,.int .i64 0] true)),
(120,(TI.mk true 11 208 .struct [(0,((29,true))),(9,((118,true))),(10,((3,true)))] [.str [],.sl [],.sl [],.sl [],.sl [],.bool false,.sl [],.sl [],.sl [],.nilm,.int .i64 0] true)),
(121,tF),
(122,(TI.mk false 1 0 .other [] [.any] false)),
(123,tF),
(124,tF),
(125,(TI.mk false 1 8 (.map 9 4) [] [.nilm] false)),
(126,tF),
(127,tF),
(128,tF),
(129,tF),
(130,tF),
(131,tF),
(132,tF),
(133,tF),
(134,tF),
(135,tF),
(136,tF),
(137,tF),
(138,tF),
(139,(TI.mk false 1 0 .other [] [.any] false)),
(140,tF),
(141,tF),
(142,tF),
(143,(TI.mk false 1 0 .other [] [.any] false)),
(144,tF),
(145,tF),
(146,tF),
(147,tF),
(148,(TI.mk false 1 24 (.slice 72) [] [.sl []] false)),
(149,(TI.mk true 5 80 .struct [(0,((9,true))),(1,((148,true))),(2,((72,true))),(4,((3,true)))] [.str [],.sl [],.int .i64 0,.sl [],.int .i64 0] true)),
(150,(TI.mk true 5 80 .struct [(0,((9,true))),(1,((148,true))),(2,((72,true))),(4,((3,true)))] [.str [],.sl [],.int .i64 0,.sl [],.int .i64 0] true)),
(151,tF),
(152,tF),
(153,tF),
(154,tF),
(155,tF),
(156,tF),
(157,tF),
(158,(TI.mk false 1 8 (.map 65 65) [] [.nilm] false)),
(159,tF),
(160,(TI.mk false 1 8 (.map 65 76) [] [.nilm] false)),
(161,tF),
(162,tF),
(163,tF),
(164,tF),
(165,tF),
(166,tF),
(167,(TI.mk false 1 0 .other [] [.any] false)),
(168,tF),
(169,tF),
(170,tF),
(171,tF),
(172,tF),
(173,tF),
(174,tF),
(175,tF),
(176,(TI.mk true 3 24 .struct [(0,((3,true))),(1,((3,true))),(2,((3,true)))] [.int .i64 0,.int .i64 0,.int .i64 0] true)),
(177,(TI.mk true 3 24 .struct [(0,((3,true))),(1,((3,true))),(2,((3,true)))] [.int .i64 0,.int .i64 0,.int .i64 0] true)),
(178,tF),
(179,tF),
(180,tF),
(181,(TI.mk false 1 24 (.slice 91) [] [.sl []] false)),
(182,tF),
(183,(TI.mk false 1 0 .other [] [.any] false)),
(184,tF),
(185,tF),
(186,tF),
(187,tF),
(188,tF),
(189,tF),
(190,tF),
(191,tF),
(192,tF),
(193,tF),
(194,tF),
(195,(TI.mk true 2 16 .struct [(0,((193,true))),(1,((194,true)))] [.nilf,.nilf] true)),
(196,(TI.mk true 2 16 .struct [(0,((193,true))),(1,((194,true)))] [.nilf,.nilf] true)),
(197,(TI.mk true 9 144 .struct [(0,((87,true))),(3,((74,true)))] [.str [],.int .i64 0,.sl [],.int .i64 0,.int .i64 0,.str [],.str [],.sl [],.sl []] true)),
(198,(TI.mk true 9 144 .struct [(0,((87,true))),(3,((74,true)))] [.str [],.int .i64 0,.sl [],.int .i64 0,.int .i64 0,.str [],.str [],.sl [],.sl []] true)),
(199,tF),
(200,tF),
(201,(TI.mk true 2 16 .struct [(0,((199,true))),(1,((200,true)))] [.nilf,.nilf] true)),
(202,(TI.mk true 2 16 .struct [(0,((199,true))),(1,((200,true)))] [.nilf,.nilf] true)),
(203,tF),
(204,(TI.mk true 2 16 .struct [(0,((203,true))),(1,((134,true)))] [.nilf,.nilf] true)),
(205,(TI.mk true 2 16 .struct [(0,((203,true))),(1,((134,true)))] [.nilf,.nilf] true)),
(206,tF),
(207,tF),
(208,(TI.mk true 2 16 .struct [(0,((206,true))),(1,((207,true)))] [.nilf,.nilf] true)),
(209,(TI.mk true 2 16 .struct [(0,((206,true))),(1,((207,true)))] [.nilf,.nilf] true)),
(210,(TI.mk false 1 0 .other [] [.any] false)),
(211,tF),
(212,(TI.mk false 1 24 (.slice 198) [] [.sl []] false)),
(213,(TI.mk false 1 0 .other [] [.any] false)),
(214,tF),
(215,tF),
(216,(TI.mk false 1 0 .other [] [.any] false)),
(217,tF),
(218,(TI.mk false 1 24 (.slice 27) [] [.sl []] false)),
(219,(TI.mk false 1 0 .other [] [.any] false)),
(220,tF),
(221,tF),
(222,(TI.mk false 1 0 .other [] [.any] false)),
(223,tF),
(224,tF),
(225,tF),
(226,(TI.mk false 1 0 .other [] [.any] false)),
(227,tF),
(228,tF),
(229,(TI.mk false 1 0 .other [] [.any] false)),
(230,tF),
(231,tF),
(232,tF),
(233,tF),
(234,tF),
(235,tF),
(236,tF),
(237,tF),
(238,(TI.mk false 1 8 .ptr [] [.nilp] false)),
(239,(TI.mk true 12 208 .struct [(0,((42,true))),(1,((44,true))),(2,((3,true))),(3,((3,true))),(4,((55,true)))] [.sl [],.sl [],.int .i64 0,.int .i64 0,.int .i64 0,.int .i64 0,.int .i64 0,.sl [],.sl [],.sl [],.sl [],.sl []] true)),
(240,(TI.mk true 12 208 .struct [(0,((42,true))),(1,((44,true))),(2,((3,true))),(3,((3,true))),(4,((55,true)))] [.sl [],.sl [],.int .i64 0,.int .i64 0,.int .i64 0,.int .i64 0,.int .i64 0,.sl [],.sl [],.sl [],.sl [],.sl []] true)),
(241,tF),
(242,tF),
(243,tF),
(244,tF),
(245,tF),
(246,tF),
(247,tF),
(248,tF),
(249,tF),
(250,tF),
(251,tF),
(252,tF),
(253,tF),
(254,tF),
(255,tF),
(256,tF),
(257,tF),
(258,tF),
(259,tF),
(260,(TI.mk false 1 8 (.int .u64) [] [.int .u64 0] false)),
(261,tF),
(262,tF),
(263,tF),
(264,tF),
(265,tF),
(266,tF),
(267,tF),
(268,(TI.mk true 3 56 .struct [(0,((3,true))),(1,((22,true))),(2,((47,true)))] [.int .i64 0,.sl [],.sl []] true)),
(269,(TI.mk true 3 56 .struct [(0,((3,true))),(1,((22,true))),(2,((47,true)))] [.int .i64 0,.sl [],.sl []] true)),
(270,tF),
(271,(TI.mk true 6 48 .struct [(0,((177,true))),(3,((177,true)))] [.int .i64 0,.int .i64 0,.int .i64 0,.int .i64 0,.int .i64 0,.int .i64 0] true)),
(272,(TI.mk true 6 48 .struct [(0,((177,true))),(3,((177,true)))] [.int .i64 0,.int .i64 0,.int .i64 0,.int .i64 0,.int .i64 0,.int .i64 0] true)),
(273,tF),
(274,tF),
(275,tF),
(276,tF),
(277,tF),
(278,tF),
(279,tF),
(280,tF),
(281,tF),
(282,tF),
(283,tF),
(284,tF),
(285,tF),
(286,tF),
(287,tF),
(288,tF),
(289,tF),
(290,tF),
(291,tF),
(292,tF),
(293,tF),
(294,tF),
(295,tF),
(296,(TI.mk false 1 0 .other [] [.any] false)),
(297,tF),
(298,tF),
(299,tF),
(300,tF),
(301,tF),
(302,tF),
(303,(TI.mk false 1 0 .other [] [.any] false)),
(304,tF),
(305,tF),
(306,tF),
(307,tF),
(308,tF),
(309,tF),
(310,tF),
(311,(TI.mk false 1 8 (.map 65 4) [] [.nilm] false)),
(312,tF),
(313,tF),
(314,tF),
(315,tF),
(316,(TI.mk false 1 8 (.int .i64) [] [.int .i64 0] false)),
(317,(TI.mk false 1 0 .other [] [.any] false)),
(318,tF),
(319,tF),
(320,tF),
(321,tF),
(322,tF),
(323,(TI.mk false 1 4 (.int .u32) [] [.int .u32 0] false)),
(324,tF),
(325,(TI.mk false 1 8 (.int .u64) [] [.int .u64 0] false)),
(326,tF),
(327,tF),
(328,tF),
(329,tF),
(330,tF),
(331,tF),
(332,tF),
(333,tF),
(334,tF),
(335,(TI.mk false 1 24 (.slice 22) [] [.sl []] false)),
(336,tF),
(337,tF),
(338,(TI.mk false 1 24 (.slice 212) [] [.sl []] false)),
(339,tF),
(340,(TI.mk false 1 24 (.slice 25) [] [.sl []] false)),
(341,tF),
(342,(TI.mk false 1 24 (.slice 218) [] [.sl []] false)),
(343,tF),
(344,tF),
(345,tF),
(346,tF),
(347,tF),
(348,tF),
(349,tF),
(350,tF),
(351,tF),
(352,tF),
(353,tF),
(354,(TI.mk false 1 8 (.int .u64) [] [.int .u64 0] false)),
(355,tF),
(356,tF),
(357,tF),
(358,(TI.mk false 1 8 .ptr [] [.nilp] false)),
(359,tF),
(360,tF),
(361,tF),
(362,tF),
(363,tF),
(364,tF),
(365,tF),
(366,(TI.mk false 1 8 .ptr [] [.nilp] false)),
(367,(TI.mk false 1 0 .other [] [.any] false)),
(368,tF),
(369,tF),
(370,(TI.mk false 1 0 .other [] [.any] false)),
(371,tF),
(372,tF),
(373,tF),
(374,(TI.mk true 4 40 .struct [(0,((17,true))),(1,((17,true))),(2,((17,true))),(3,((9,true)))] [.nilp,.nilp,.nilp,.str []] false)),
(375,(TI.mk true 4 40 .struct [(0,((17,true))),(1,((17,true))),(2,((17,true))),(3,((9,true)))] [.nilp,.nilp,.nilp,.str []] false)),
(376,(TI.mk true 0 0 (.array 0 16) [] [] false)),
(377,(TI.mk true 0 0 .struct [(0,((376,false)))] [] false)),
(378,(TI.mk true 0 0 .struct [(0,((376,false)))] [] false)),
(379,tF),
(380,(TI.mk false 1 1 (.int .u8) [] [.int .u8 0] false)),
(381,(TI.mk false 1 1 (.int .u8) [] [.int .u8 0] false)),
(382,tF),
(383,(TI.mk false 1 8 .ptr [] [.nilp] false)),
(384,(TI.mk false 1 4 (.int .i32) [] [.int .i32 0] false)),
(385,(TI.mk false 1 4 (.int .i32) [] [.int .i32 0] false)),
(386,(TI.mk true 11 48 .struct [(0,((12,true))),(1,((12,true))),(2,((323,true))),(3,((380,true))),(4,((5,true))),(5,((5,true))),(6,((381,true))),(7,((382,true))),(8,((383,true))),(9,((384,true))),(10,((385,true)))] [.int .u64 0,.int .u64 0,.int .u32 0,.int .u8 0,.int .u8 0,.int .u8 0,.int .u8 0,.nilf,.nilp,.int .i32 0,.int .i32 0] false)),
(387,(TI.mk true 11 48 .struct [(0,((12,true))),(1,((12,true))),(2,((323,true))),(3,((380,true))),(4,((5,true))),(5,((5,true))),(6,((381,true))),(7,((382,true))),(8,((383,true))),(9,((384,true))),(10,((385,true)))] [.int .u64 0,.int .u64 0,.int .u32 0,.int .u8 0,.int .u8 0,.int .u8 0,.int .u8 0,.nilf,.nilp,.int .i32 0,.int .i32 0] false)),
(388,(TI.mk false 1 8 .other [] [.nilp] false))]
def AE:List (Nat×TI)→Nat→Option TI
 | [],_=>none
 | (k,x):: r,t=>bif Nat.beq k t then some x else AE r t
noncomputable def T:TT:=AE tab
def Lb:Ann:={kinds:=[(14,.S),(15,.S),(17,.S)],nl:=[46,52,63,66,70,83,90,92,96,103,105,111,115,120,125,130,134,136,143,149,153,155,158,162,166,170,175,186,190,200,206,210,216,220,223,228,232],lw:=[14,15,17],loops:=[(0,{vals:=vN [0,3,4,5,13,14,15,16]}),(2,{vals:=vN [0,13,15,17,18]}),(4,{vals:=vN [0,13,17,19]}),(6,{vals:=vN [0,13,17,19,20]})]}
def Ip:Ann:={kinds:=[(10,.S),(15,.S),(16,.S)],hl:=[42,103],nl:=[19,27,32,37,42,52,58,67,72,79,81,89,92,94,98,103,105,109],lw:=[10,15,16],loops:=[(0,{vals:=vN [2,6,32,33,34]}),(2,{vals:=vN [6,67,68,69]})]}
def Iq:Ann:={kinds:=[(8,.S)],nl:=[13,18,32,37,40,44,50,56,62,68,74,77,82,88,94,100,102,109,112,115,121,126,133],lw:=[8],joins:=[(116,{vals:=vN [1,9,10]})],loops:=[(0,{vals:=vN [1,3,13,14,15]}),(2,{vals:=vN [1,6,32,33,34]})]}
def Ir:Ann:={lw:=[12]}
def Is:Ann:={kinds:=[(5,.S),(8,.S)],ha:=[54],hb:=[6,15,33],no:=[46,53],nl:=[9,14,17,22,24,27,29,32,35,40,44],lw:=[2,3,5,6,8,48,55],loops:=[(0,{vals:=vN [17,18,19,3000,3001,4000,4001],locs:=[(2,3000,0),(3,4000,0)],lbs:=[(3000,2),(4000,2)]}),(2,{vals:=[(17,none),(18,none),(19,none),(35,none),(36,none),(37,none),(3000,none),(3001,none),(4000,none),(4001,none),(7000,none),(7001,some 2),(7002,none),(7003,none),(7004,none)],locs:=[(2,3000,0),(3,4000,0),(6,7000,0)],lbs:=[(3000,2),(4000,2),(7000,5)]})],ords:=[(8,[0,1,2,3,5,6,8,4,7,9])],nils:=[(6,[1])]}
def Ek:Ann:={kinds:=[(3,.S),(4,.S),(5,.S),(6,.S),(7,.S),(9,.S),(10,.S),(12,.S)],no:=[15,18,25,28,30,32,36,38,44,48,50,58,60],nl:=[35,47,55,62,65,70,75,84,85,93,98],lw:=[3,4,5,6,7,9,10,12]}
def It:Ann:={nl:=[40,48,57,65,74,83,86,94,103,107,115,119,132],loops:=[(0,{vals:=vN [0,1,9]}),(2,{vals:=vN [0,1,9,10]}),(4,{vals:=vN [0,1,9,11]}),(6,{vals:=vN [1,12]})]}
def Iu:Ann:={no:=[30],nl:=[17,28],loops:=[(0,{vals:=[(0,none),(3,some 2),(4,none)]})]}
def Iv:Ann:={nl:=[3]}
def Iw:Ann:={nl:=[11,13,21,28,34,43,46,48,52,56,59,61,65],loops:=[(0,{vals:=vN [2,3,4,7]}),(2,{vals:=vN [2,3,4,7,8,9]})]}
def Ix:Ann:={iso:=false,kinds:=[(8,.S),(10,.S),(11,.S),(16,.H)],hl:=[44,55],hb:=[15],nl:=[13,22,24,29,31,36,44,46,55,57,58],lw:=[8,10,11],loops:=[(0,{vals:=vN [6,17,18,19]}),(2,{vals:=vN [6,8,17,18,19,24,25,26]})]}
def Iy:Ann:={kinds:=[(5,.S),(8,.S),(11,.S)],nl:=[14,20,22,24,27,29,34,38,41,47,49,52,55,58,60,65,70,76,78,80,83,86,88,93],lw:=[5,8,11],loops:=[(0,{vals:=vN [1,14,15,16]}),(2,{vals:=vN [1,41,42,43]}),(4,{vals:=vN [1,70,71,72]})]}
def Iz:Ann:={iso:=false,kinds:=[(8,.S),(10,.S)],hl:=[95],no:=[51],nl:=[15,21,26,34,36,48,49,54,56,65,73,81,90,95,97,101],lw:=[6,8,10],joins:=[(60,{vals:=vN [0,1,5,15,60,7000,7001],locs:=[(6,7000,0)],lbs:=[(7000,2)]}),(91,{vals:=vN [5,12,7000,7001],locs:=[(6,7000,0)],lbs:=[(7000,2)]})],ords:=[(11,[0,1,3,4,5,6,7,9,10,11,12,2,8,13,14,15,16,17])]}
def IA:Ann:={nl:=[6,8,12]}
def ID:Ann:={}
def IF:Ann:={kinds:=[(7,.S)],nl:=[14,17,21,27,33],lw:=[7],loops:=[(0,{vals:=vN [0,1,5,9,10,11]})]}
def IG:Ann:={nl:=[3]}
def II:Ann:={nl:=[3]}
def IJ:Ann:={kinds:=[(6,.S)],nl:=[12,13],lw:=[6],loops:=[(0,{vals:=vN [0,1,7,8,9]})]}
def IK:Ann:={kinds:=[(7,.S),(10,.S),(11,.S)],hb:=[8,26],no:=[52,58],nl:=[23,25,28,31,35,40,42,51],lw:=[7,8,10,11,54],loops:=[(0,{vals:=[(5,some 2),(18,none),(19,none),(20,none)]}),(2,{vals:=[(5,some 2),(18,none),(19,none),(20,none),(35,none),(36,none),(37,none),(9000,none),(9001,some 4)],locs:=[(8,9000,0)],lbs:=[(9000,2)]})],nils:=[(8,[1])]}
def IL:Ann:={kinds:=[(16,.S),(17,.S),(18,.S),(21,.S),(45,.H)],hl:=[81,110],ha:=[89],hb:=[44],no:=[88],nl:=[46,50,51,59,62,66,75,76,77,81,83,85,95,96,107,110],lw:=[14,16,17,18,21],loops:=[(0,{vals:=vN [11,16,17,18,70,71,72,15000,15001,15002,15003,15004,15005,15006,15007],locs:=[(14,15000,0)],lbs:=[(15000,8)]})]}
def Ey:Ann:={kinds:=[(1,.L),(4,.S)],nl:=[16,21],lw:=[2,4,8],loops:=[(0,{vals:=vN [10,11,12,2000,2001,3000,3001],locs:=[(1,2000,0),(2,3000,0)],lbs:=[(2000,2),(3000,2)]})]}
def Ez:Ann:={nl:=[6,8]}
def EA:Ann:={}
def Lc:Ann:={kinds:=[(1,.S),(2,.S),(3,.S)],no:=[5,9,12,14,18,20,22,24],nl:=[8,13,21],lw:=[1,2,3]}
def Ld:Ann:={lw:=[2]}
def IM:Ann:={kinds:=[(8,.S),(20,.H)],hb:=[19],nl:=[9,11,15],lw:=[6,8]}
def Le:Ann:={nl:=[10,15,21,27,32,35,39,45,47,54,57,62,65,67]}
def Lf:Ann:={nl:=[5,8,12,13]}
def IP:Ann:={nl:=[3]}
def IQ:Ann:={nl:=[8,18,22,27,31,38,41,48,51,65,69,74,80,86,93],loops:=[(0,{vals:=vN [1,3]}),(2,{vals:=vN [1,4,5]})]}
def IU:Ann:={nl:=[15,27,30],loops:=[(0,{vals:=vN [1,2,3,7,8]})]}
def Da:Ann:={nl:=[15,27,30],loops:=[(0,{vals:=vN [1,2,3,7,8]})]}
def Db:Ann:={nl:=[10,15,20,23,28,31,35,38,43,48,52,56,62,68,74,77],loops:=[(0,{vals:=vN [1,2,5]})]}
def Jw:Ann:={nl:=[19,23],loops:=[(0,{vals:=vN [0,1,12,13]})]}
def Dc:Ann:={nl:=[3]}
def Dd:Ann:={}
def De:Ann:={nl:=[3]}
def Df:Ann:={kinds:=[(10,.S),(15,.H)],hl:=[31],hb:=[14],nl:=[19,31,34,35],lw:=[10]}
def kB:Ann:={}
def Dg:Ann:={iso:=false,kinds:=[(8,.S),(10,.S)],hl:=[17],nl:=[17,19,27,33,35,45,46,50],lw:=[6,8,10],joins:=[(28,{vals:=vN [8,7000,7001],locs:=[(6,7000,0)],lbs:=[(7000,2)]})],ords:=[(1,[0,1,2,3,4,5,6,11,7,8,9,10,12,13])]}
def Dh:Ann:={iso:=false,kinds:=[(8,.S),(13,.S)],hl:=[63],nl:=[16,24,27,35,49,50,52,55,63,65,70],lw:=[6,8,13],loops:=[(0,{vals:=vN [0,8,43,44,45,7000,7001],locs:=[(6,7000,0)],lbs:=[(7000,2)]})]}
def Di:Ann:={iso:=false,kinds:=[(10,.S),(11,.S)],no:=[31],nl:=[18,22,30],lw:=[10,11],loops:=[(0,{vals:=[(0,none),(1,none),(8,some 2),(13,none),(14,none),(15,none)]})]}
def Dj:Ann:={kinds:=[(7,.H),(10,.S)],hl:=[77,104],ha:=[86],hb:=[7,12],no:=[85],nl:=[14,49,51,52,54,60,63,69,75,77,79,82,83,92,95,97,104],lw:=[4,10],joins:=[(15,{vals:=vN [2,3,6,7,8,14,15,5000,5001],locs:=[(4,5000,0)],lbs:=[(5000,2)]}),(39,{vals:=vN [2,3,6,7,8,14,39,5000,5001],locs:=[(4,5000,0)],lbs:=[(5000,2)]}),(1000000,{vals:=vN [7,8,5000,5001],locs:=[(4,5000,0)],lbs:=[(5000,2)]})],loops:=[(1,{vals:=vN [2,7,8,69,70,71,5000,5001],locs:=[(4,5000,0)],lbs:=[(5000,2)]})]}
def Dk:Ann:={}
def Dl:Ann:={kinds:=[(4,.S)],nl:=[8,10,17,19],lw:=[4]}
def Dm:Ann:={}
def Dn:Ann:={kinds:=[(6,.S)],nl:=[11,16,21,27,31,37,43,45,53,55,60,66],lw:=[6],loops:=[(0,{vals:=vN [1,2,37,38,39]})]}
def Do:Ann:={kinds:=[(5,.S),(8,.S)],nl:=[13,18,22,31,37,39,44,46,51,53,58,61,66,71,76,77],lw:=[5,8],loops:=[(0,{vals:=vN [1,71,72,73]})]}
def Dp:Ann:={kinds:=[(4,.S)],nl:=[14],lw:=[4],loops:=[(0,{vals:=vN [0,8,9,10]})]}
def Dq:Ann:={}
def Ds:Ann:={iso:=false,hl:=[8],nl:=[8]}
def Dt:Ann:={iso:=false,hl:=[16],nl:=[16,20,30],lw:=[6]}
def Du:Ann:={}
def Dv:Ann:={nl:=[3]}
def uw:Ann:={iso:=false,ha:=[7]}
def Dw:Ann:={iso:=false,nl:=[5,6,7,8],lw:=[4]}
def Dx:Ann:={iso:=false,kinds:=[(11,.S),(12,.S)],hl:=[16,26,30,67,79],ha:=[41],no:=[40],nl:=[16,20,26,30,34,36,48,54,57,61,67,74,79,83],lw:=[8,9,11,12],joins:=[(20,{vals:=vN [0,1,3,6,9000,9001,9002,9003],locs:=[(8,9000,0)],lbs:=[(9000,4)]})],loops:=[(0,{vals:=vN [0,3,6,48,49,50,9000,9001,9002,9003,10000,10001,10002],locs:=[(8,9000,0),(9,10000,0)],lbs:=[(9000,4),(10000,3)]})]}
def Jy:Ann:={kinds:=[(8,.S),(9,.S)],nl:=[21,25,27,28],lw:=[8,9],loops:=[(0,{vals:=vN [1,2,15,16,17]})]}
def yF:Ann:={}
def Dy:Ann:={nl:=[3]}
def Dz:Ann:={iso:=false,nl:=[5,6,7,9],lw:=[4]}
def DC:Ann:={iso:=false,kinds:=[(9,.S)],hl:=[14,20],nl:=[14,20,25,35,42,46,51,55,60,66,74,77,79,82,85,94,96,98,100,103,105,107,114,116,118,121,125,129,131,133,139,141,143,150,152,154,157,159,161,164,166,168,173,175,177,179,181,185,187,192,193,198,200,202,205,207,210,218,221,225,226,229,230],lw:=[6,9],joins:=[(87,{vals:=vN [0,4,5,42,87,7000,7001,7002,7003],locs:=[(6,7000,0)],lbs:=[(7000,4)]}),(110,{vals:=vN [0,4,5,42,110,7000,7001,7002,7003],locs:=[(6,7000,0)],lbs:=[(7000,4)]}),(1000000,{vals:=vN [0,4,5,7000,7001,7002,7003],locs:=[(6,7000,0)],lbs:=[(7000,4)]})],loops:=[(1,{vals:=vN [0,4,5,8,7000,7001,7002,7003],locs:=[(6,7000,0)],lbs:=[(7000,4)]})],ords:=[(23,[0,1,2,3,4,5,6,7,9,10,11,12,13,14,8,15,16,17]),(26,[0,1,2,3,4,5,7,8,9,6,10]),(36,[0,1,2,3,4,5,6,7,8,9,12,13,14,15,10,11,16,17]),(40,[0,1,2,3,4,5,7,6,8])]}
def Jz:Ann:={nl:=[6,8,12,14,19,21,26,28]}
def DD:Ann:={nl:=[5,8,12,16,21,27,31,36,41,45,50,53,59,65,70]}
def DF:Ann:={nl:=[18],loops:=[(0,{vals:=vN [0,3]})]}
def DG:Ann:={nl:=[15,27,31],loops:=[(0,{vals:=vN [1,2,3,7,8]})]}
def DI:Ann:={nl:=[14,18],loops:=[(0,{vals:=vN [0,3]})]}
def DJ:Ann:={nl:=[15],loops:=[(0,{vals:=vN [0,1,7,8]})]}
def DK:Ann:={nl:=[15],loops:=[(0,{vals:=vN [0,1,7,8]})]}
def DL:Ann:={}
def DN:Ann:={nl:=[15],loops:=[(0,{vals:=vN [0,1,7,8]})]}
def DO:Ann:={iso:=false,kinds:=[(7,.S),(10,.S),(11,.S)],hl:=[21,31,60,81],hb:=[8,39],no:=[51],nl:=[15,21,31,34,36,38,41,46,50,60,62,67,81,83,89,92],lw:=[4,7,8,10,11,53],loops:=[(0,{vals:=[(41,none),(42,none),(43,none),(5000,none),(5001,none),(5002,none),(5003,none),(5004,none),(9000,none),(9001,some 2),(9002,none),(9003,none),(9004,none)],locs:=[(4,5000,0),(8,9000,0)],lbs:=[(5000,5),(9000,5)]})],nils:=[(8,[1])]}
def DR:Ann:={nl:=[4]}
def DT:Ann:={nl:=[5,6]}
def DU:Ann:={kinds:=[(8,.S),(9,.S),(11,.S)],hb:=[6,21],no:=[52],nl:=[14,16,20,23,28,31,33,40,41,49,50],lw:=[4,6,8,9,11,54],loops:=[(0,{vals:=[(3,none),(23,none),(24,none),(25,none),(5000,none),(5001,none),(7000,none),(7001,some 3)],locs:=[(4,5000,0),(6,7000,0)],lbs:=[(5000,2),(7000,2)]})],nils:=[(6,[1])]}
def DV:Ann:={nl:=[15],loops:=[(0,{vals:=vN [0,1,7,8]})]}
def DW:Ann:={}
def DX:Ann:={loops:=[(0,{vals:=vN [0,1,5]})]}
def DY:Ann:={}
def DZ:Ann:={}
def D1:Ann:={nl:=[6,8,11,16,23,30,36,45,54,58,63,65],lw:=[2,4,17,24,31,37,46,55,66,67],joins:=[(12,{vals:=vN [1,11,12,3000,3001,3002,3003,3004,3005,5000,5001,5002,5003,5004,5005],locs:=[(2,3000,0),(4,5000,0)],lbs:=[(3000,6),(5000,6)]}),(19,{vals:=vN [1,11,19,3000,3001,3002,3003,3004,3005,5000,5001,5002,5003,5004,5005],locs:=[(2,3000,0),(4,5000,0)],lbs:=[(3000,6),(5000,6)]}),(26,{vals:=vN [1,11,26,3000,3001,3002,3003,3004,3005,5000,5001,5002,5003,5004,5005],locs:=[(2,3000,0),(4,5000,0)],lbs:=[(3000,6),(5000,6)]})]}
def D2:Ann:={nl:=[6,10,14,20,24,30,34,39,44,54,59,63,67,73,80,86,96,100,106],joins:=[(47,{vals:=vN [1,6,47]})],loops:=[(1,{vals:=vN [1,80,81,82]})]}
def D3:Ann:={}
def D4:Ann:={nl:=[5,7]}
def D5:Ann:={kinds:=[(8,.S),(9,.S)],nl:=[21,25,27,28],lw:=[8,9],loops:=[(0,{vals:=vN [1,2,15,16,17]})]}
def D6:Ann:={nl:=[6,8,12,15,21]}
def D7:Ann:={nl:=[3]}
def D8:Ann:={nl:=[5,6]}
def D9:Ann:={nl:=[5,6]}
def Ea:Ann:={nl:=[15],loops:=[(0,{vals:=vN [0,1,7,8]})]}
def Eb:Ann:={}
def Ec:Ann:={no:=[13,19],nl:=[8,10,16,18],lw:=[6]}
def Ed:Ann:={joins:=[(4,{vals:=vN [3,4]}),(9,{vals:=vN [3,9]}),(14,{vals:=vN [3,14]}),(25,{vals:=[(25,none)]})]}
def Ee:Ann:={lw:=[2]}
def Ef:Ann:={lw:=[2]}
def Eg:Ann:={iso:=false,nl:=[10,12,16,21,23,27,31,39,41,47,49,55,57,61,63],lw:=[6]}
def Eh:Ann:={iso:=false,kinds:=[(7,.S)],nl:=[9,10,13,17],lw:=[7]}
def Ei:Ann:={iso:=false,kinds:=[(9,.S)],hb:=[7,31],no:=[45],nl:=[11,14,19,24,29,33,38,42,43],lw:=[6,7,9,47],loops:=[(0,{vals:=[(0,none),(4,none),(33,none),(34,none),(35,none),(7000,none),(7001,none),(7002,none),(7003,none),(8000,none),(8001,none),(8002,none),(8003,some 4)],locs:=[(6,7000,0),(7,8000,0)],lbs:=[(7000,4),(8000,4)]})],nils:=[(7,[3])]}
def Ej:Ann:={nl:=[15],loops:=[(0,{vals:=vN [0,1,7,8]})]}
def El:Ann:={iso:=false,kinds:=[(8,.S),(12,.S)],no:=[61],nl:=[14,16,20,26,33,37,42,45,50,55,58,59,66],lw:=[6,8,12],joins:=[(17,{vals:=vN [0,4,5,7,7000,7001,7002,7003],locs:=[(6,7000,0)],lbs:=[(7000,4)]})],loops:=[(0,{vals:=[(0,none),(4,none),(7,none),(8,none),(10,some 4),(50,none),(51,none),(52,none),(7000,none),(7001,none),(7002,none),(7003,none)],locs:=[(6,7000,0)],lbs:=[(7000,4)]})]}
def Em:Ann:={iso:=false,kinds:=[(7,.S)],hl:=[47,54,60,69,90,105,110,127],ha:=[77],no:=[76],nl:=[12,15,17,19,22,26,30,35,40,47,54,56,60,69,71,73,84,90,92,95,105,107,110,112,117,119,121,127],lw:=[6,7],joins:=[(49,{vals:=vN [0,5,7,8,7000,7001,7002,7003],locs:=[(6,7000,0)],lbs:=[(7000,4)]}),(113,{vals:=vN [9,10,7000,7001,7002,7003],locs:=[(6,7000,0)],lbs:=[(7000,4)]})],ords:=[(2,[0,1,2,3,4,5,7,6,8])]}
def En:Ann:={nl:=[14,18],loops:=[(0,{vals:=vN [0,3]})]}
def Eo:Ann:={nl:=[4,5]}
def Ep:Ann:={nl:=[5,7]}
def Er:Ann:={nl:=[15],loops:=[(0,{vals:=vN [0,1,7,8]})]}
def Es:Ann:={nl:=[5,7]}
def Et:Ann:={}
def Eu:Ann:={}
def ux:Ann:={}
def Ew:Ann:={kinds:=[(5,.S)],nl:=[7,12,14],lw:=[5],loops:=[(0,{vals:=vN [3,7,8,9]})]}
def Ex:Ann:={nl:=[5,7]}
noncomputable def og:List (Nat×(Func×Ann)):=[
(6,(Tryz.f6,Lb)),
(12,(Tryz.f12,Ip)),
(13,(Tryz.f13,Iq)),
(19,(Tryz.f19,Ir)),
(23,(Tryz.f23,Is)),
(27,(Tryz.f27,Ek)),
(28,(Tryz.f28,It)),
(29,(Tryz.f29,Iu)),
(30,(Tryz.f30,Iv)),
(31,(Tryz.f31,Iw)),
(49,(Tryz.f49,Ix)),
(50,(Tryz.f50,Iy)),
(51,(Tryz.f51,Iz)),
(52,(Tryz.f52,IA)),
(53,(Tryz.f53,ID)),
(54,(Tryz.f54,IF)),
(55,(Tryz.f55,IG)),
(56,(Tryz.f56,II)),
(57,(Tryz.f57,IJ)),
(70,(Tryz.f70,IK)),
(71,(Tryz.f71,IL)),
(83,(Tryz.f83,Ez)),
(84,(Tryz.f84,EA)),
(92,(Tryz.f92,Lc)),
(93,(Tryz.f93,Ld)),
(94,(Tryz.f94,IM)),
(95,(Tryz.f95,Le)),
(96,(Tryz.f96,Lf)),
(97,(Tryz.f97,IP)),
(98,(Tryz.f98,IQ)),
(99,(Tryz.f99,IU)),
(100,(Tryz.f100,Da)),
(101,(Tryz.f101,Db)),
(122,(Tryz.f122,Jw)),
(141,(Tryz.f141,Dc)),
(142,(Tryz.f142,Dd)),
(143,(Tryz.f143,De)),
(144,(Tryz.f144,Df)),
(147,(Tryz.f147,Dg)),
(148,(Tryz.f148,Dh)),
(149,(Tryz.f149,Di)),
(150,(Tryz.f150,Dj)),
(151,(Tryz.f151,Dk)),
(152,(Tryz.f152,Dl)),
(153,(Tryz.f153,Dm)),
(155,(Tryz.f155,Dn)),
(156,(Tryz.f156,Do)),
(160,(Tryz.f160,Dp)),
(161,(Tryz.f161,Dq)),
(162,(Tryz.f162,Ds)),
(163,(Tryz.f163,Dt)),
(164,(Tryz.f164,Du)),
(165,(Tryz.f165,Dv)),
(168,(Tryz.f168,Dw)),
(169,(Tryz.f169,Dx)),
(172,(Tryz.f172,Jy)),
(184,(Tryz.f184,yF)),
(189,(Tryz.f189,Dy)),
(190,(Tryz.f190,Dz)),
(191,(Tryz.f191,DC)),
(192,(Tryz.f192,Jz)),
(193,(Tryz.f193,DD)),
(194,(Tryz.f194,DF)),
(195,(Tryz.f195,DG)),
(196,(Tryz.f196,DI)),
(200,(Tryz.f200,DJ)),
(203,(Tryz.f203,DK)),
(209,(Tryz.f209,DL)),
(222,(Tryz.f222,DN)),
(224,(Tryz.f224,DO)),
(225,(Tryz.f225,DR)),
(226,(Tryz.f226,DT)),
(227,(Tryz.f227,DU)),
(228,(Tryz.f228,DV)),
(229,(Tryz.f229,DW)),
(230,(Tryz.f230,DX)),
(231,(Tryz.f231,DY)),
(232,(Tryz.f232,DZ)),
(234,(Tryz.f234,D1)),
(235,(Tryz.f235,D2)),
(236,(Tryz.f236,D3)),
(237,(Tryz.f237,D4)),
(238,(Tryz.f238,D5)),
(239,(Tryz.f239,D6)),
(240,(Tryz.f240,D7)),
(241,(Tryz.f241,D8)),
(242,(Tryz.f242,D9)),
(243,(Tryz.f243,Ea)),
(245,(Tryz.f245,Eb)),
(246,(Tryz.f246,Ec)),
(263,(Tryz.f263,Ed)),
(264,(Tryz.f264,Ee)),
(265,(Tryz.f265,Ef)),
(266,(Tryz.f266,Eg)),
(267,(Tryz.f267,Eh)),
(268,(Tryz.f268,Ei)),
(269,(Tryz.f269,Ej)),
(270,(Tryz.f270,El)),
(271,(Tryz.f271,Em)),
(272,(Tryz.f272,En)),
(273,(Tryz.f273,Eo)),
(289,(Tryz.f289,Ep)),
(290,(Tryz.f290,Er)),
(291,(Tryz.f291,Es)),
(293,(Tryz.f293,Et)),
(294,(Tryz.f294,Eu)),
(310,(Tryz.f310,Ew)),
(311,(Tryz.f311,Ex))]
def tv:List (Nat×(Func×Ann))→Nat→Option (Func×Ann)
 | [],_=>none
 | (k,x):: r,t=>bif Nat.beq k t then some x else tv r t
def own:FuncId→Option Nat:=fun f=>bif Nat.beq f 146 then some 3 else bif Nat.beq f 278 then some 1 else bif Nat.beq f 281 then some 9 else bif Nat.beq f 283 then some 12 else bif Nat.beq f 285 then some 3 else bif Nat.beq f 293 then some 1 else bif Nat.beq f 294 then some 4 else none
noncomputable def other:FuncId→Option ((FuncId→List AV→M AV)→List AV→M AV):=fun f=>
 bif Nat.beq f 81 then some (mh) else bif Nat.beq f 82 then some (gJ 5 83) else bif Nat.beq f 145 then some (ml) else bif Nat.beq f 146 then some (fA T 23) else bif Nat.beq f 154 then some (jY) else bif Nat.beq f 166 then some (di T 47) else bif Nat.beq f 167 then some (ym 33 .i64 (.agg [.int .i64 0,.int .i64 0,.sl [],.sl []])) else bif Nat.beq f 309 then some (fA T 22) else none
noncomputable def pg:Pg:={ T:=T,funcs:=tv og,own:=own,other:=other,nw:=fun f=>bif Nat.beq f 166 then true else false }
theorem hOther:dK pg:=by
 intro f E hE call calls hc
 have h0:other f=some E:=hE
 unfold other at h0
 rcases fl h0 with rfl | h0
 ·exact bg.const _
 rcases fl h0 with rfl | h0
 ·exact bg.const _
 rcases fl h0 with rfl | h0
 ·exact bg.const _
 rcases fl h0 with rfl | h0
 ·exact qK _ _ _ _
 rcases fl h0 with rfl | h0
 ·exact bg.const _
 rcases fl h0 with rfl | h0
 ·exact qJ _ _ _ _
 rcases fl h0 with rfl | h0
 ·exact Gz _ _ _ _ _ hc
 rcases fl h0 with rfl | h0
 ·exact qK _ _ _ _
 cases h0
end Go.Proofs.YtkkabinknmldeaaGreat
namespace Go.Proofs.YtkkabinknmldeaaGreat
open Go Go.Av
set_option maxRecDepth 1000000
instance dr0:Dr:=⟨False⟩
theorem HR{p:Prop}(h:Dr.on):p:=False.elim h
theorem Kr:(tab.map fun x=>Ks Tryz.prog x.1)=tab.map fun x=>some x.2:=by kernel_rfl
theorem tw:(l:List (Nat×TI))→(t:Nat)→(ti:TI)→AE l t=some ti→(t,ti)∈l
 | [],t,ti,h=>by cases h
 | (k,x):: r,t,ti,h=>by
  simp only[AE] at h
  cases hk:Nat.beq k t with
  | true=>
   rw[hk] at h
   simp only[cond_true,Option.some.injEq] at h
   have:=Nat.eq_of_beq_eq_true hk
   subst this h
   exact List.mem_cons_self
  | false=>
   rw[hk] at h
   exact List.mem_cons_of_mem _ (tw r t ti h)
theorem gL{α β:Type}{f g:α→β}:{l:List α} →l.map f=l.map g→∀ x∈l,f x=g x
 | [],_,x,hx=>by cases hx
 | a:: l,h,x,hx=>by
  simp only[List.map_cons,List.cons.injEq] at h
  rcases List.mem_cons.1 hx with rfl | hx
  ·exact h.1
  ·exact gL h.2 x hx
theorem tok:TOK Tryz.prog T:=⟨fun t ti h=>gL Kr (t,ti) (tw tab t ti h),by kernel_rfl⟩
theorem vM:(og.map fun x=>Tryz.prog.funcs[x.1]?)=og.map fun x=>some x.2.1:=by kernel_rfl
theorem nd:(og.map fun x=>x.2.1.name== "runtime.NumGoroutine")=og.map fun _=>false:=by kernel_rfl
theorem oE:(l:List (Nat×(Func×Ann)))→(t:Nat)→(x:Func×Ann)→tv l t=some x→(t,x)∈l
 | [],t,ti,h=>by cases h
 | (k,x):: r,t,ti,h=>by
  simp only[tv] at h
  cases hk:Nat.beq k t with
  | true=>
   rw[hk] at h
   simp only[cond_true,Option.some.injEq] at h
   have:=Nat.eq_of_beq_eq_true hk
   subst this h
   exact List.mem_cons_self
  | false=>
   rw[hk] at h
   exact List.mem_cons_of_mem _ (oE r t ti h)
theorem wZ:∀ f fn a,pg.funcs f=some (fn,a)→Tryz.prog.funcs[f]? = some fn∧(fn.name== "runtime.NumGoroutine")=false:=by
 intro f fn a h
 have:=oE og f (fn,a) h
 exact⟨gL vM _ this,gL nd _ this⟩
end Go.Proofs.YtkkabinknmldeaaGreat
namespace Go.Proofs.YtkkabinknmldeaaGreat
open Go Go.Av
set_option maxRecDepth 100000
noncomputable def sK (n:Nat) (a:Ann):Cx:={ T:=T,call:=fun _ _=>M.fail,own:=own,iso:=fun _=>false,nw:=fun _=>false,nt:=n,ann:=a }
theorem mj(n:Nat)(a:Ann):cW Tryz.prog (sK n a).own (sK n a).call:=fun f args h S β w vs hr=>absurd rfl hr
theorem qd(n:Nat)(a:Ann):IsoCall (sK n a):=⟨fun f args h=>Bool.noConfusion h,fun f args h=>Bool.noConfusion h⟩
theorem Lr(e:AV)(es:List AV):ci (sK Tryz.f166.ntmps uw) (cZ 0) Tryz.f166 none [.sl (e:: es)]=ae (appH T 47 true (.sl []) (.sl (e:: es))) fun v=>ae (af (some v)) M.pure:=by kernel_rfl
theorem Ls:ci (sK Tryz.f166.ntmps uw) (cZ 0) Tryz.f166 none [.hn]=ae (af (some (.sl []))) M.pure:=by kernel_rfl
theorem Lt(l off:Nat):ci (sK Tryz.f166.ntmps uw) (cZ 0) Tryz.f166 none [.hs l off 0 1 false]=ae (appH T 47 true (.sl []) (.hs l off 0 1 false)) fun v=>ae (af (some v)) M.pure:=by kernel_rfl
theorem Lu(e:AV)(es:List AV):ci (sK Tryz.f309.ntmps ux) (cZ 0) Tryz.f309 none [.sl (e:: es)]=ae (af (cP T 22 (.sl []) (.sl (e:: es)))) fun v=>ae (af (some v)) M.pure:=by kernel_rfl
theorem Lv:ci (sK Tryz.f309.ntmps ux) (cZ 0) Tryz.f309 none [.hn]=ae (af (some (.sl []))) M.pure:=by kernel_rfl
theorem Lw(l off:Nat):ci (sK Tryz.f309.ntmps ux) (cZ 0) Tryz.f309 none [.hs l off 0 1 false]=ae (af (cP T 22 (.sl []) (.hs l off 0 1 false))) fun v=>ae (af (some v)) M.pure:=by kernel_rfl
theorem Lx(l off:Nat):cP T 22 (.sl []) (.hs l off 0 1 false)=some (.sl []):=by rfl
theorem Kf(call:FuncId→List AV→M AV)(args:List AV)(h:Hp)(S:aC)(β:List bU)(w:World)(vs:List Value)(hr:di T 47 call args h≠.fail)(hg:vX β h w)(hw:Wf S w)(hh:cU S β w h)(hv:bj S β args vs):
  Calls Tryz.prog 166 vs.toArray w (eM none S β h w (di T 47 call args h)):=by
 have key:∀ es,args=[.sl es]→Calls Tryz.prog 166 vs.toArray w (eM none S β h w (di T 47 call args h)):=by
  rintro es rfl
  exact (jF (cx:=sK Tryz.f166.ntmps uw) (E:=fun es h=>di T 47 call [.sl es] h) tok (mj _ _) (qd _ _) Tryz.func166 rfl (fun h=>by rfl) (fun e es h=>by rw[Lr];exact congrFun (uC _) h) (fun h=>by rw[Ls];rfl) (fun l off h=>by rw[Lt];rfl) hr hg hw hh hv).1
 unfold di at hr
 split at hr
 ·exact key _ rfl
 ·exact absurd rfl hr
theorem Kg(call:FuncId→List AV→M AV)(args:List AV)(h:Hp)(S:aC)(β:List bU)(w:World)(vs:List Value)(hr:fA T 22 call args h≠.fail)(hg:vX β h w)(hw:Wf S w)(hh:cU S β w h)(hv:bj S β args vs):
  Calls Tryz.prog 309 vs.toArray w (eM none S β h w (fA T 22 call args h)):=by
 have key:∀ es,args=[.sl es]→Calls Tryz.prog 309 vs.toArray w (eM none S β h w (fA T 22 call args h)):=by
  rintro es rfl
  exact (jF (cx:=sK Tryz.f309.ntmps ux) (E:=fun es h=>fA T 22 call [.sl es] h) tok (mj _ _) (qd _ _) Tryz.func309 rfl (fun h=>by rfl) (fun e es h=>by rw[Lu];exact congrFun (uC _) h) (fun h=>by rw[Lv];rfl) (fun l off h=>by rw[Lw,Lx];rfl) hr hg hw hh hv).1
 unfold fA at hr
 split at hr
 ·exact key _ rfl
 ·exact absurd rfl hr
def K9:Prop:=∀ call,cW Tryz.prog own call→∀(args:List AV)(h:Hp)(S:aC)(β:List bU)(w:World)(vs:List Value),ym 33 .i64 (.agg [.int .i64 0,.int .i64 0,.sl [],.sl []]) call args h≠.fail→vX β h w→Wf S w→cU S β w h→bj S β args vs→
 Calls Tryz.prog 167 vs.toArray w (eM none S β h w (ym 33 .i64 (.agg [.int .i64 0,.int .i64 0,.sl [],.sl []]) call args h))
end Go.Proofs.YtkkabinknmldeaaGreat
namespace Go.Proofs.YtkkabinknmldeaaGreat
open Go Go.Av
theorem yQ(p q:Addr)(w:World):CallsD Tryz.prog 244 #[.pointer (some p),.pointer (some q)] .returning w fun e u' w'=>e= .returned (.tuple #[])∧u'= .returning∧w'=w:=by
 refine callsD_of_wpS Tryz.func244 rfl fun c₀ cs hu=>?_
 apply wpS_seq
 apply wpS_region
 simp[wpOpsS,go_sem,recoverD,hu,Tryz.ntmps244,Exit.thenS]
 refine wpS_of_wp ?_
 go_wp2
 cases c₀
 simp_all[bodyPostS,results,Tryz.results244]
theorem EJ(n:Int)(w:World):(Instr.typeAssert (.iface 33 (.int .i64 n)) 20 33 true).run Tryz.prog w= .ok (.tuple #[.int .i64 n,.bool true]) w:=by kernel_rfl
theorem JE(w:World):(Instr.build 51 #[]).run Tryz.prog w= .ok (.agg #[.int .i64 0,.int .i64 0,.slice none 0 0,.slice none 0 0]) w:=by
 obtain⟨v,h1,h2⟩:=wv (P:=Tryz.prog) (T:=T) (w:=w) (S:=fun _ _=>none) (β:=[]) (told:=true) (t:=51) (parts:=[]) (r:=.agg [.int .i64 0,.int .i64 0,.hn,.hn]) (qs:=#[]) tok rfl rfl
 rw[h1]
 simp only[VR,bj] at h2
 obtain⟨vs,rfl,a,_,rfl,rfl,b,_,rfl,rfl,c,_,rfl,rfl,d,_,rfl,rfl,rfl⟩:=h2
 rfl
set_option maxHeartbeats 4000000 in
set_option maxRecDepth 100000 in
theorem BJ(b c:Nat)(x0 x1 x2 x3 y0:Value)(n:Int)(w:World)(c0:w.cell? ⟨b,0,none⟩=some x0)(c1:w.cell? ⟨b,1,none⟩=some x1)(c2:w.cell? ⟨b,2,none⟩=some x2) (c3:w.cell? ⟨b,3,none⟩=some x3)
  (d0:w.cell? ⟨c,0,none⟩=some y0) (f0:w.frozen? ⟨b,0,none⟩=false) (f1:w.frozen? ⟨b,1,none⟩=false) (f2:w.frozen? ⟨b,2,none⟩=false) (f3:w.frozen? ⟨b,3,none⟩=false) (g0:w.frozen? ⟨c,0,none⟩=false) (hne:¬ b=c) (hne':¬ c=b):
  CallsD Tryz.prog 244 #[.pointer (some ⟨b,0,none⟩),.pointer (some ⟨c,0,none⟩)] (.panicking [{ v:=.iface 33 (.int .i64 n),recovered:=false }]) w fun e u' w'=>
   e= .returned (.tuple #[])∧u'= .panicking [{ v:=.iface 33 (.int .i64 n),recovered:=true }]∧w'=((((w.setCell ⟨b,0,none⟩ (.int .i64 0)).setCell ⟨b,1,none⟩ (.int .i64 0)).setCell ⟨b,2,none⟩ (.slice none 0 0)).setCell ⟨b,3,none⟩ (.slice none 0 0)).setCell ⟨c,0,none⟩ (.int .i64 n):=by
 refine callsD_of_wpS Tryz.func244 rfl fun c₀ cs hu=>?_
 apply wpS_seq
 apply wpS_region
 simp[wpOpsS,go_sem,recoverD,hu,Tryz.ntmps244,Exit.thenS]
 refine wpS_of_wp ?_
 have h1:=EJ n
 have h2:=JE
 go_wp2
 cases c₀
 simp_all[bodyPostS,results,Tryz.results244]
end Go.Proofs.YtkkabinknmldeaaGreat
namespace Go.Proofs.YtkkabinknmldeaaGreat
open Go Go.Av
set_option maxRecDepth 100000
def oZ(w:World):World:=(w.alloc (Obj.cells #[Value.int IntKind.i64 0,Value.int IntKind.i64 0,Value.slice none 0 0,Value.slice none 0 0] 51)).alloc (Obj.cells #[Value.int IntKind.i64 0] 33)
def Ai(w w':World)(u0 u1 u2 u3 e:Value):World:=((((w'.setCell ⟨w.heap.size,0,none⟩ u0).setCell ⟨w.heap.size,1,none⟩ u1).setCell ⟨w.heap.size,2,none⟩ u2).setCell ⟨w.heap.size,3,none⟩ u3).setCell ⟨w.heap.size + 1,0,none⟩ e
def Nu(w:World)(R:Ending→World→Prop):Ending→World→Prop:=fun e w'=>
 w'.heap[w.heap.size]? = (oZ w).heap[w.heap.size]? ∧w'.heap[w.heap.size + 1]? = (oZ w).heap[w.heap.size + 1]? ∧
 ((∃ u0 u1 u2 u3:Value,u0.oneCell'=true∧u1.oneCell'=true∧u2.oneCell'=true∧u3.oneCell'=true∧e= .returned (.agg #[u0,u1,u2,u3])∧R (.returned (.tuple #[.agg #[u0,u1,u2,u3],.int .i64 0])) (Ai w w' u0 u1 u2 u3 (.int .i64 0)))∨
  ∃ n,e= .panicked [{ v:=.iface 33 (.int .i64 n),recovered:=false }]∧R (.returned (.tuple #[.agg #[.int .i64 0,.int .i64 0,.slice none 0 0,.slice none 0 0],.int .i64 n])) (Ai w w' (.int .i64 0) (.int .i64 0) (.slice none 0 0) (.slice none 0 0) (.int .i64 n)))
set_option maxHeartbeats 4000000 in
theorem GC(g:FuncId)(x y:Array Value)(w:World)(R:Ending→World→Prop) (hfn:(Tryz.prog.funcs[g]?).any (fun fn=>fn.body.isSome && !(fn.name== "runtime.NumGoroutine"))=true)
  (hc:Calls Tryz.prog g (x++y) (oZ w) (Nu w R)):Calls Tryz.prog 167 #[.func (.func g) x y] w R:=by
 have hmf:∀(fn:Fn)(first cap:Array Value)(w:World),(Instr.makeFunc fn first cap).run Tryz.prog w= .ok (.func fn first cap) w:=fun _ _ _ _=>rfl
 go_enter_defers Tryz.func167,Tryz.ntmps167
 go_wp2
 rw[iM hfn,Oper.upon_enter]
 refine hc.mono fun e w' h=>?_
 obtain⟨k0,k1,h⟩:=h
 have r0:w'.heap[w.heap.size]? = some (.cells #[Value.int IntKind.i64 0,Value.int IntKind.i64 0,Value.slice none 0 0,Value.slice none 0 0] 51):=by rw[k0];exact (Go.Av.alloc_old _ _ (by simp)).trans (heap_alloc_new w _)
 have r1:w'.heap[w.heap.size + 1]? = some (.cells #[Value.int IntKind.i64 0] 33):=by rw[k1];have:=heap_alloc_new (w.alloc (Obj.cells #[Value.int IntKind.i64 0,Value.int IntKind.i64 0,Value.slice none 0 0,Value.slice none 0 0] 51)) (Obj.cells #[Value.int IntKind.i64 0] 33);rwa [World.size_alloc] at this
 have c0:w'.cell? ⟨w.heap.size,0,none⟩=some (.int .i64 0):=by simp[World.cell?,r0]
 have c1:w'.cell? ⟨w.heap.size,1,none⟩=some (.int .i64 0):=by simp[World.cell?,r0]
 have c2:w'.cell? ⟨w.heap.size,2,none⟩=some (.slice none 0 0):=by simp[World.cell?,r0]
 have c3:w'.cell? ⟨w.heap.size,3,none⟩=some (.slice none 0 0):=by simp[World.cell?,r0]
 have d0:w'.cell? ⟨w.heap.size + 1,0,none⟩=some (.int .i64 0):=by simp[World.cell?,r1]
 have f0:w'.frozen? ⟨w.heap.size,0,none⟩=false:=by simp[World.frozen?,r0]
 have f1:w'.frozen? ⟨w.heap.size,1,none⟩=false:=by simp[World.frozen?,r0]
 have f2:w'.frozen? ⟨w.heap.size,2,none⟩=false:=by simp[World.frozen?,r0]
 have f3:w'.frozen? ⟨w.heap.size,3,none⟩=false:=by simp[World.frozen?,r0]
 have g0:w'.frozen? ⟨w.heap.size + 1,0,none⟩=false:=by simp[World.frozen?,r1]
 clear k0 k1 r0 r1 hc hmf
 rcases h with ⟨u0,u1,u2,u3,o0,o1,o2,o3,rfl,hR⟩ | ⟨n,rfl,hR⟩
 ·simp only
  rename_i K1 hK1 K hK
  apply hK
  clear hK
  have hK1':=hK1
  clear hK1
  have s0:∀ a m (w:World),(store a u0 m).run Tryz.prog w=stored Tryz.prog w a u0 m:=fun a m w=>run_store _ w a u0 m o0
  have s1:∀ a m (w:World),(store a u1 m).run Tryz.prog w=stored Tryz.prog w a u1 m:=fun a m w=>run_store _ w a u1 m o1
  have s2:∀ a m (w:World),(store a u2 m).run Tryz.prog w=stored Tryz.prog w a u2 m:=fun a m w=>run_store _ w a u2 m o2
  have s3:∀ a m (w:World),(store a u3 m).run Tryz.prog w=stored Tryz.prog w a u3 m:=fun a m w=>run_store _ w a u3 m o3
  go_wp2
  change Leaves _ _ _ _ _ _ _
  refine leaves_cons (f:=244) (args:=#[.pointer (some ⟨w.heap.size,0,none⟩),.pointer (some ⟨w.heap.size + 1,0,none⟩)]) (by simp) (by simp[go_sem]) ?_
  refine (yQ ⟨w.heap.size,0,none⟩ ⟨w.heap.size + 1,0,none⟩ _).mono ?_
  rintro e u' w'' ⟨rfl,rfl,rfl⟩
  simp only[Leaves,settle]
  refine⟨_,?_,hR⟩
  simp[results,Tryz.results167,go_sem,Ai,World.cell?_setCell_same,c0,c1,c2,c3,d0]
 ·change Leaves _ _ _ _ _ _ _
  refine leaves_cons (f:=244) (args:=#[.pointer (some ⟨w.heap.size,0,none⟩),.pointer (some ⟨w.heap.size + 1,0,none⟩)]) (by simp) (by simp[go_sem]) ?_
  refine (BJ w.heap.size (w.heap.size + 1) _ _ _ _ _ n w' c0 c1 c2 c3 d0 f0 f1 f2 f3 g0 (by omega) (by omega)).mono ?_
  rintro e u' w'' ⟨rfl,rfl,rfl⟩
  simp only[Leaves,settle]
  refine⟨_,?_,hR⟩
  simp[results,Tryz.results167,go_sem,Ai,World.cell?_setCell_same,c0,c1,c2,c3,d0]
theorem o6(w:World):(oZ w).heap.size=w.heap.size + 2:=by simp[oZ]
theorem GA(w:World)(b:Nat)(hb:b < w.heap.size):(oZ w).heap[b]? = w.heap[b]?:=by
 unfold oZ
 rw[Go.Av.alloc_old _ _ (by simp;omega),Go.Av.alloc_old _ _ hb]
theorem yo(w:World):Gro w (oZ w):=(Gro.alloc w _ _).trans (Gro.alloc _ _ _)
theorem yn(w w':World)(u0 u1 u2 u3 e:Value):Gro w' (Ai w w' u0 u1 u2 u3 e):=
 ((((Gro.setCell _ _ _).trans (Gro.setCell _ _ _)).trans (Gro.setCell _ _ _)).trans (Gro.setCell _ _ _)).trans (Gro.setCell _ _ _)
theorem uf(w w':World)(u0 u1 u2 u3 e:Value)(b:Nat)(hb:¬ (w.heap.size≤b∧b < (oZ w).heap.size)):(Ai w w' u0 u1 u2 u3 e).heap[b]? = w'.heap[b]?:=by
 rw[o6] at hb
 unfold Ai
 rw[gn (by simp;omega),gn (by simp;omega),gn (by simp;omega),gn (by simp;omega),gn (by simp;omega)]
theorem BI{call:FuncId→List AV→M AV}{f:AV}{xs:List AV}{h:Hp}(hr:bw call f xs h≠.fail):∃ g a c,f= .fn (.func g) a c:=by
 unfold bw at hr
 split at hr
 ·exact⟨_,_,_,rfl⟩
 ·exact absurd rfl hr
theorem Kt:K9:=by
 intro call hC args h S β w vs hr hg hw hh hv
 have key:∀ f,args=[f]→Calls Tryz.prog 167 vs.toArray w (eM none S β h w (ym 33 .i64 (.agg [.int .i64 0,.int .i64 0,.sl [],.sl []]) call args h)):=by
  rintro f rfl
  have ht:ym 33 .i64 (.agg [.int .i64 0,.int .i64 0,.sl [],.sl []]) call [f] h=vR 33 .i64 (.agg [.int .i64 0,.int .i64 0,.sl [],.sl []]) (bw call f [] h):=rfl
  rw[ht] at hr ⊢
  clear ht
  simp only[bj] at hv
  obtain⟨fv,_,rfl,hv,rfl⟩:=hv
  have hne:bw call f [] h≠.fail:=fun e=>by rw[e] at hr;exact hr rfl
  obtain⟨g,a,c,rfl⟩:=BI hne
  ·have hcv:bw call (.fn (.func g) a c) [] h=call g (a++[]++c) h:=rfl
   rw[hcv] at hr hne ⊢
   simp only[VR] at hv
   obtain⟨x,y,rfl,hx,hy⟩:=hv
   have hold:=GA w
   have hv2:bj S β (a++[]++c) (x++y):=by simpa using hx.append hy
   obtain⟨hcall,hfn⟩:=hC g (a++[]++c) h S β (oZ w) (x++y) hne ⟨hg.1.mono fun b hb=>hold b (Nat.lt_of_lt_of_le hb hg.1.lt),hg.2⟩ (hw.grow hold) (hh.grow hold) hv2
   refine GC g x.toArray y.toArray w _ hfn ?_
   have e:(x++y).toArray=x.toArray++y.toArray:=by simp
   rw[← e]
   refine hcall.mono fun en w' hp=>?_
   have kk:∀ S' β' h',Go.Av.Left (cB β h) S β (oZ w) S' β' w' h'→w'.heap[w.heap.size]? = (oZ w).heap[w.heap.size]? ∧w'.heap[w.heap.size + 1]? = (oZ w).heap[w.heap.size + 1]?:=fun S' β' h' L=>
    ⟨(L.keep _ (by rw[o6];omega) fun ho=>by have:=hh.low ho;omega).1,(L.keep _ (by rw[o6];omega) fun ho=>by have:=hh.low ho;omega).1⟩
   generalize call g (a++[]++c) h=r at hr hne hp ⊢
   cases r with
   | fail=>exact absurd rfl hne
   | ok v h'=>
    obtain⟨S',β',u,rfl,hu,L,_⟩:=hp
    refine⟨(kk _ _ _ L).1,(kk _ _ _ L).2,.inl ?_⟩
    simp only[vR] at hr ⊢
    cases hok:cm 4 v with
    | false=>rw[hok] at hr;exact absurd rfl hr
    | true=>
     obtain⟨g1,g2,g3⟩:=kN hok hu
     have hcs:∃ cs,v= .agg cs:=by
      simp only[cm,Bool.and_eq_true] at hok
      have h1:=hok.1
      cases v <;> simp[cL] at h1
      exact⟨_,rfl⟩
     obtain⟨cs,rfl⟩:=hcs
     simp only[VR] at hu
     obtain⟨us,rfl,hus⟩:=hu
     simp only[Value.cells] at g1 g3
     match us,g1 with
     | [u0,u1,u2,u3],_=>
      refine⟨u0,u1,u2,u3,g3 u0 (by simp),g3 u1 (by simp),g3 u2 (by simp),g3 u3 (by simp),rfl,S',β',_,rfl,?_,tM (yo w) hold L (yn ..) (fun b hb=>uf w w' _ _ _ _ _ b hb) hw hh,fun sz hsz=>by cases hsz⟩
      simp only[VR,bj]
      exact⟨[.agg #[u0,u1,u2,u3],.int .i64 0],rfl,_,_,rfl,⟨[u0,u1,u2,u3],rfl,hus⟩,_,_,rfl,rfl,rfl⟩
   | pan v h'=>
    obtain⟨S',β',u,rfl,hu,L⟩:=hp
    refine⟨(kk _ _ _ L).1,(kk _ _ _ L).2,.inr ?_⟩
    unfold vR at hr ⊢
    split at hr
    ·rename_i heq;cases heq
    ·rename_i t' k' n h'' heq
     cases heq
     cases hb:(Nat.beq t' 33&&decide (k'=IntKind.i64)) with
     | false=>rw[hb] at hr;exact absurd rfl hr
     | true=>
      simp only[Bool.and_eq_true,decide_eq_true_eq] at hb
      obtain⟨hb1,rfl⟩:=hb
      have:=Nat.eq_of_beq_eq_true hb1
      subst this
      simp only[VR] at hu
      obtain⟨u',rfl,rfl⟩:=hu
      refine⟨n,rfl,S',β',_,rfl,?_,tM (yo w) hold L (yn ..) (fun b hb=>uf w w' _ _ _ _ _ b hb) hw hh,fun sz hsz=>by cases hsz⟩
      simp only[VR,bj]
      refine⟨[.agg #[.int .i64 0,.int .i64 0,.slice none 0 0,.slice none 0 0],.int .i64 n],rfl,_,_,rfl,⟨[.int .i64 0,.int .i64 0,.slice none 0 0,.slice none 0 0],rfl,_,_,rfl,rfl,_,_,rfl,rfl,_,_,rfl,?_,_,_,rfl,?_,rfl⟩,_,_,rfl,rfl,rfl⟩
      ·exact⟨none,0,rfl,Nat.le_refl _,fun _=>rfl,fun q hq=>by cases hq⟩
      ·exact⟨none,0,rfl,Nat.le_refl _,fun _=>rfl,fun q hq=>by cases hq⟩
    ·exact absurd rfl hr
 rcases args with _ | ⟨f,_ | ⟨f2,r⟩⟩
 ·exact absurd rfl hr
 ·exact key _ rfl
 ·exact absurd rfl hr
end Go.Proofs.YtkkabinknmldeaaGreat
namespace Go.Proofs
open Go.Shelf
def Tryz.laysSortS_ren:Go.Shelf.Ren:=⟨fun | 6=>82 | 15=>183 | 14=>182 | 28=>259 | 29=>260 | 20=>251 | 21=>252 | 22=>253 | 23=>254 | 24=>255 | 25=>256 | 26=>257 | 27=>258 | 46=>304 | 47=>305 | 48=>306 | 49=>307 | 50=>308 | 57=>321 | n=>n,fun | 22=>67 | 24=>150 | 25=>153 | 3=>3 | 39=>260 | 0=>0 | 53=>323 | 55=>325 | 4=>4 | 46=>317 | 45=>316 | 50=>57 | 5=>5 | 9=>9 | 66=>354 | 70=>358 | 76=>366 | 77=>367 | n=>n,fun | n=>n⟩
theorem Tryz.laysSortS:Go.Proofs.SlLaysF0.n6 Tryz.prog Tryz.laysSortS_ren:={
 mixed:=by kernel_rfl
 f6:=⟨Tryz.f82.name,by decide,Tryz.func82.trans (congrArg some (by kernel_rfl))⟩
 f14:=⟨Tryz.f182.name,by decide,Tryz.func182.trans (congrArg some (by kernel_rfl))⟩
 f15:=Tryz.func183.trans (congrArg some (by kernel_rfl))
 f20:=⟨Tryz.f251.name,by decide,Tryz.func251.trans (congrArg some (by kernel_rfl))⟩
 f21:=⟨Tryz.f252.name,by decide,Tryz.func252.trans (congrArg some (by kernel_rfl))⟩
 f22:=⟨Tryz.f253.name,by decide,Tryz.func253.trans (congrArg some (by kernel_rfl))⟩
 f23:=⟨Tryz.f254.name,by decide,Tryz.func254.trans (congrArg some (by kernel_rfl))⟩
 f24:=⟨Tryz.f255.name,by decide,Tryz.func255.trans (congrArg some (by kernel_rfl))⟩
 f25:=⟨Tryz.f256.name,by decide,Tryz.func256.trans (congrArg some (by kernel_rfl))⟩
 f26:=⟨Tryz.f257.name,by decide,Tryz.func257.trans (congrArg some (by kernel_rfl))⟩
 f27:=⟨Tryz.f258.name,by decide,Tryz.func258.trans (congrArg some (by kernel_rfl))⟩
 f28:=Tryz.func259.trans (congrArg some (by kernel_rfl))
 f29:=Tryz.func260.trans (congrArg some (by kernel_rfl))
 f46:=⟨Tryz.f304.name,by decide,Tryz.func304.trans (congrArg some (by kernel_rfl))⟩
 f47:=Tryz.func305.trans (congrArg some (by kernel_rfl))
 f48:=Tryz.func306.trans (congrArg some (by kernel_rfl))
 f49:=⟨Tryz.f307.name,by decide,Tryz.func307.trans (congrArg some (by kernel_rfl))⟩
 f50:=⟨Tryz.f308.name,by decide,Tryz.func308.trans (congrArg some (by kernel_rfl))⟩
 f57:=⟨Tryz.f321.name,by decide,Tryz.func321.trans (congrArg some (by kernel_rfl))⟩
 t0:=Tryz.underlying0
 a0:=Tryz.isAgg0
 z0:=Tryz.sizeOf0
 v0:=Tryz.zeroValue0
 t3:=Tryz.underlying3
 a3:=Tryz.isAgg3
 z3:=Tryz.sizeOf3
 v3:=Tryz.zeroValue3
 t4:=Tryz.underlying4
 a4:=Tryz.isAgg4
 z4:=Tryz.sizeOf4
 v4:=Tryz.zeroValue4
 t5:=Tryz.underlying5
 a5:=Tryz.isAgg5
 z5:=Tryz.sizeOf5
 v5:=Tryz.zeroValue5
 t9:=Tryz.underlying9
 a9:=Tryz.isAgg9
 z9:=Tryz.sizeOf9
 v9:=Tryz.zeroValue9
 t22:=Tryz.underlying67
 a22:=Tryz.isAgg67
 z22:=Tryz.sizeOf67
 v22:=Tryz.zeroValue67
 t25:=Tryz.underlying153
 a25:=Tryz.isAgg153
 z25:=Tryz.sizeOf153
 v25:=Tryz.zeroValue153
 t39:=Tryz.underlying260
 a39:=Tryz.isAgg260
 z39:=Tryz.sizeOf260
 v39:=Tryz.zeroValue260
 t45:=Tryz.underlying316
 a45:=Tryz.isAgg316
 z45:=Tryz.sizeOf316
 v45:=Tryz.zeroValue316
 t46:=Tryz.underlying317
 a46:=Tryz.isAgg317
 z46:=Tryz.sizeOf317
 v46:=Tryz.zeroValue317
 t50:=Tryz.underlying57
 a50:=Tryz.isAgg57
 z50:=Tryz.sizeOf57
 v50:=Tryz.zeroValue57
 t53:=Tryz.underlying323
 a53:=Tryz.isAgg323
 z53:=Tryz.sizeOf323
 v53:=Tryz.zeroValue323
 t55:=Tryz.underlying325
 a55:=Tryz.isAgg325
 z55:=Tryz.sizeOf325
 v55:=Tryz.zeroValue325
 t66:=Tryz.underlying354
 a66:=Tryz.isAgg354
 z66:=Tryz.sizeOf354
 v66:=Tryz.zeroValue354
 t70:=Tryz.underlying358
 a70:=Tryz.isAgg358
 z70:=Tryz.sizeOf358
 v70:=Tryz.zeroValue358
 t76:=Tryz.underlying366
 a76:=Tryz.isAgg366
 z76:=Tryz.sizeOf366
 v76:=Tryz.zeroValue366
 t77:=Tryz.underlying367
 a77:=Tryz.isAgg367
 z77:=Tryz.sizeOf367
 v77:=Tryz.zeroValue367 }
def Tryz.lays144_ren:Go.Shelf.Ren:=⟨fun | 144=>154 | 143=>233 | 219=>292 | 217=>314 | 225=>315 | 224=>316 | 267=>317 | 266=>323 | 314=>324 | n=>n,fun | 9=>9 | 4=>4 | 3=>3 | 5=>5 | 46=>260 | 146=>370 | 51=>323 | n=>n,fun | 1=>0 | n=>n⟩
theorem Tryz.lays144:Go.Proofs.Lays.n144 Tryz.prog Tryz.lays144_ren:={
 mixed:=by kernel_rfl
 f143:=Tryz.func233.trans (congrArg some (by kernel_rfl))
 f144:=Tryz.func154.trans (congrArg some (by kernel_rfl))
 f217:=Tryz.func314.trans (congrArg some (by kernel_rfl))
 f219:=Tryz.func292.trans (congrArg some (by kernel_rfl))
 f224:=Tryz.func316.trans (congrArg some (by kernel_rfl))
 f225:=Tryz.func315.trans (congrArg some (by kernel_rfl))
 f266:=Tryz.func323.trans (congrArg some (by kernel_rfl))
 f267:=Tryz.func317.trans (congrArg some (by kernel_rfl))
 f314:=Tryz.func324.trans (congrArg some (by kernel_rfl))
 t3:=Tryz.underlying3
 a3:=Tryz.isAgg3
 z3:=Tryz.sizeOf3
 v3:=Tryz.zeroValue3
 t4:=Tryz.underlying4
 a4:=Tryz.isAgg4
 z4:=Tryz.sizeOf4
 v4:=Tryz.zeroValue4
 t5:=Tryz.underlying5
 a5:=Tryz.isAgg5
 z5:=Tryz.sizeOf5
 v5:=Tryz.zeroValue5
 t9:=Tryz.underlying9
 a9:=Tryz.isAgg9
 z9:=Tryz.sizeOf9
 v9:=Tryz.zeroValue9
 t46:=Tryz.underlying260
 a46:=Tryz.isAgg260
 z46:=Tryz.sizeOf260
 v46:=Tryz.zeroValue260
 t51:=Tryz.underlying323
 a51:=Tryz.isAgg323
 z51:=Tryz.sizeOf323
 v51:=Tryz.zeroValue323
 t146:=Tryz.underlying370
 a146:=Tryz.isAgg370
 z146:=Tryz.sizeOf370
 v146:=Tryz.zeroValue370
 g1:=by kernel_rfl }
end Go.Proofs
namespace Go.Proofs.YtkkabinknmldeaaGreat
open Go Go.Av Go.RowKit
set_option maxRecDepth 100000
theorem Bi{S:aC}{β:List bU}{s:List UInt8}{r:List Value}{l:List AV}(hv:bj S β (.str s:: l) r):∃ x r',r= .string x:: r'∧x.data.toList=s∧bj S β l r':=by
 simp only[bj,VR] at hv
 obtain⟨v,r',rfl,⟨x,rfl,hx⟩,h⟩:=hv
 exact⟨x,r',rfl,hx,h⟩
theorem Ke(call:FuncId→List AV→M AV)(args:List AV)(h:Hp)(S:aC)(β:List bU)(w:World)(vs:List Value)(hr:jY call args h≠.fail)(hg:vX β h w)(hw:Wf S w)(hh:cU S β w h)(hv:bj S β args vs):
  Calls Tryz.prog 154 vs.toArray w (eM none S β h w (jY call args h)):=by
 unfold jY at hr ⊢
 split at hr
 ·rename_i s t
  obtain⟨x,r,rfl,hx,hv⟩:=Bi hv
  obtain⟨y,r,rfl,hy,hv⟩:=Bi hv
  simp only[bj] at hv
  subst hv
  cases hc:decide (s.length < 4294967281) with
  | false=>rw[hc] at hr;exact absurd rfl hr
  | true=>
   simp only[cond_true]
   have hlen:x.size=s.length:=by rw[← hx,Array.length_toList];rfl
   obtain⟨m,hm⟩:=hg.1.max
   refine (Any.strings_Contains Tryz.lays144 x y m w (by have:=of_decide_eq_true hc;omega) hm).mono ?_
   rintro e w' ⟨rfl,rfl⟩
   exact jG hw hh (Below.refl _ _) HR (by simp only[VR];rw[hx,hy])
 ·exact absurd rfl hr
end Go.Proofs.YtkkabinknmldeaaGreat
namespace Go.Proofs.YtkkabinknmldeaaGreat
open Go Go.Av Go.RowKit Go.Shelf
attribute [local go_sem] Oper.semAt_some
abbrev dE:=ByteArray×Int×(Option Addr×Nat×Nat)
def dE.k(x:dE):Value:=.int .i64 x.2.1
def dE.f(x:dE):Value:=.slice x.2.2.1 x.2.2.2.1 x.2.2.2.2
def CK(x:dE):Value:=.agg #[.string x.1,x.k,x.f]
def back(zs:List dE)(k:Nat):List (Nat×dE):=(List.range k).map fun j=>(zs.length - 1 - j,zs[zs.length - 1 - j]?.getD default)
theorem s9(zs:List dE)(k:Nat):back zs (k + 1)=back zs k++[(zs.length - 1 - k,zs[zs.length - 1 - k]?.getD default)]:=by simp[back,List.range_succ]
theorem wm(zs:List dE)(k:Nat):(back zs k).length=k:=by simp[back]
def qp(W:World)(b off:Nat)(zs:List dE):Prop:=∀ j,j < zs.length→W.cell? ⟨b,off + j * 3,none⟩=some (.string (zs[j]?.getD default).1)∧W.cell? ⟨b,off + j * 3 + 1,none⟩=some (zs[j]?.getD default).k∧W.cell? ⟨b,off + j * 3 + 2,none⟩=some (zs[j]?.getD default).f
theorem qp.below{n₀:Nat}{A B:World}(h:Below n₀ A B){b off:Nat}(hb:b < n₀){zs:List dE}(c:qp A b off zs):qp B b off zs:=fun j hj=>by
 obtain⟨h1,h2,h3⟩:=c j hj
 exact⟨(h.cell (p:=⟨b,_,none⟩) hb).trans h1,(h.cell (p:=⟨b,_,none⟩) hb).trans h2,(h.cell (p:=⟨b,_,none⟩) hb).trans h3⟩
set_option maxRecDepth 100000 in
set_option maxHeartbeats 2000000 in
theorem J6(F:Fence)(n:Nat)(h7:F.fn 288)(hro:F.round=none)(hn:1≤n)(l Bs n₀ b off cap:Nat)(zs:List dE)(hreach:zs.length≤1000000000)(hb:b < n₀)(hBn:Bs < n₀) (J Jx:List (Nat×dE)→World→Prop)
  (hY:∀ pre x W,J pre W→pre.length < zs.length→YieldAt F (n - 1) Tryz.prog l #[.int .i64 (x.1:Int),CK x.2] W fun e W'=>
   (e= .returned (.bool true)∧J (pre++[x]) W'∧Below n₀ W W')∨(e= .returned (.bool false)∧Jx (pre++[x]) W'))
  (W:World) (hBs:W.cell? ⟨Bs,0,none⟩=some (.slice (some ⟨b,off,none⟩) zs.length cap)) (hc:qp W b off zs) (h0:J [] W):
  CallsIn F n Tryz.prog 288 #[.func (.yield l) #[] #[],.pointer (some ⟨Bs,0,none⟩)] W fun e W'=>(∃ v,e= .returned v)∧
   ((∃ ys,ys=back zs zs.length∧J ys W')∨(∃ pre,(∃ k,k≤zs.length∧pre=back zs k)∧Jx pre W')):=by
 refine callsIn_of_wp Tryz.func288 rfl h7 ?_ hro
 simp only[Tryz.ntmps288,List.size_toArray,List.length_cons,List.length_nil,Nat.reduceAdd,Nat.reduceSub,Array.replicate_succ,Array.replicate_zero,List.push_toArray,List.append_toArray,List.nil_append,List.cons_append]
 gi_wp2
 gi_loopw [3] (fun i wr=>∃ k:Nat,k≤zs.length∧i= .int .i64 ((zs.length:Int) - 1 - k)∧J (back zs k) wr∧Below n₀ W wr)
  (fun i _=>(intOf i + 1).toNat)
 case atStart=>exact⟨0,Nat.zero_le _,by simp,h0,Below.refl _ _⟩
 case round=>
  obtain⟨k,hk,rfl,hJs,hnx⟩:=hrel
  have hbs:wr.cell? ⟨Bs,0,none⟩=some (.slice (some ⟨b,off,none⟩) zs.length cap):=(hnx.cell (p:=⟨Bs,0,none⟩) hBn).trans hBs
  by_cases hlt:k < zs.length
  ·obtain⟨fn,tmps,assign,body,hy,hR⟩:=hY _ (zs.length - 1 - k,zs[zs.length - 1 - k]?.getD default) wr hJs (by rw[wm];exact hlt)
   dsimp only at hy
   obtain⟨m,hm⟩:∃ m:Nat,(zs.length:Int) - 1 - k=m:=⟨zs.length - 1 - k,by omega⟩
   have hm':zs.length - 1 - k=m:=by omega
   rw[hm'] at hy hR
   rw[hm]
   obtain⟨c1,c2,c3⟩:=(hc.below hnx hb) m (by omega)
   generalize hz:zs[m]?.getD default=z at hy hR c1 c2 c3
   obtain⟨z1,z2,z3,z4,z5⟩:=z
   have hml:m < zs.length:=by omega
   simp only[CK,dE.k,dE.f] at hy c2 c3
   gi_wp2
   refine hR.mono ?_
   rintro e W3 (⟨rfl,hJ3,hk3⟩ | ⟨rfl,hJx3⟩)
   ·gi_wp2
    go_roundw
    case rel=>exact⟨k + 1,by omega,by congr 1;omega,by rw[s9,hm',hz];exact hJ3,hnx.trans hk3⟩
    case measure=>simp[intOf] <;> omega
   ·gi_wp2
    refine bodyPost_ret (results_none rfl _ _ _) rfl ?_
    exact⟨⟨_,rfl⟩,.inr ⟨_,⟨k + 1,by omega,by rw[s9,hm',hz]⟩,hJx3⟩⟩
  ·obtain rfl:k=zs.length:=by omega
   gi_wp2
   go_end0
   exact⟨⟨_,rfl⟩,.inl ⟨_,rfl,hJs⟩⟩
set_option maxRecDepth 100000 in
set_option maxHeartbeats 1000000 in
theorem zB(F:Fence)(n:Nat)(h7:F.fn 288)(hro:F.round=none)(l Bs:Nat)(p:Option Addr)(cap:Nat)(J:List (Nat×dE)→World→Prop)(W:World)(hBs:W.cell? ⟨Bs,0,none⟩=some (.slice p 0 cap))(h0:J [] W):
  CallsIn F n Tryz.prog 288 #[.func (.yield l) #[] #[],.pointer (some ⟨Bs,0,none⟩)] W fun e W'=>(∃ v,e= .returned v)∧J [] W':=by
 refine callsIn_of_wp Tryz.func288 rfl h7 ?_ hro
 simp only[Tryz.ntmps288,List.size_toArray,List.length_cons,List.length_nil,Nat.reduceAdd,Nat.reduceSub,Array.replicate_succ,Array.replicate_zero,List.push_toArray,List.append_toArray,List.nil_append,List.cons_append]
 gi_wp2
 gi_loopw [3] (fun i wr=>i= .int .i64 (-1)∧J [] wr) (fun _ _=>0)
 case atStart=>exact⟨rfl,h0⟩
 case round=>
  obtain⟨rfl,hJs⟩:=hrel
  gi_wp2
  go_end0
  exact⟨⟨_,rfl⟩,hJs⟩
set_option maxHeartbeats 1000000 in
theorem LS(F:Fence)(n:Nat)(h5:F.fn 223)(hro:F.round=none)(a:Option Addr)(len cap:Nat)(w:World):
  CallsIn F n Tryz.prog 223 #[.slice a len cap] w fun e w'=>e= .returned (.func (.func 288) #[] #[.pointer (some ⟨w.heap.size,0,none⟩)])∧w'=w.alloc (.cells #[.slice a len cap] 23):=by
 refine callsIn_of_wp Tryz.func223 rfl h5 ?_ hro
 simp only[Tryz.ntmps223,List.size_toArray,List.length_cons,List.length_nil,Nat.reduceAdd,Nat.reduceSub,Array.replicate_succ,Array.replicate_zero,List.push_toArray,List.append_toArray,List.nil_append,List.cons_append]
 gi_wp2
 go_ret
 exact⟨rfl,rfl⟩
def nj(n₀:Nat)(W:World)(sv:Value)(zs:List dE):Prop:=
 (zs=[]∧∃ p cap,sv= .slice p 0 cap)∨∃ b off cap,sv= .slice (some ⟨b,off,none⟩) zs.length cap∧b < n₀∧qp W b off zs
theorem nj.below{n₀:Nat}{A B:World}(h:Below n₀ A B){sv:Value}{zs:List dE}:nj n₀ A sv zs→nj n₀ B sv zs
 | .inl e=>.inl e
 | .inr ⟨b,off,cap,e,hb,hc⟩=>.inr ⟨b,off,cap,e,hb,hc.below h hb⟩
theorem nj.mono{n n':Nat}(h:n≤n'){W:World}{sv:Value}{zs:List dE}:nj n W sv zs→nj n' W sv zs
 | .inl e=>.inl e
 | .inr ⟨b,off,cap,e,hb,hc⟩=>.inr ⟨b,off,cap,e,Nat.lt_of_lt_of_le hb h,hc⟩
theorem Fz(F:Fence)(n:Nat)(h8:F.fn 288)(hro:F.round=none)(hn:1≤n)(Bs:Nat)(sv:Value)(zs:List dE)(hreach:zs.length≤1000000000)(w:World) (hBs:Bs < w.heap.size)
  (hc:w.cell? ⟨Bs,0,none⟩=some sv) (hI:nj w.heap.size w sv zs):
  SeqStopsK F n Tryz.prog 288 #[.pointer (some ⟨Bs,0,none⟩)] (fun x:Nat×dE=>#[Value.int .i64 (x.1:Int),CK x.2]) (Below w.heap.size) (fun ys=>ys=back zs zs.length)
   (fun pre=>∃ k,k≤zs.length∧pre=back zs k) zs.length w:=fun l J Jx W hW _ _ hY h0=>by
 have hc':=(hW.cell (p:=⟨Bs,0,none⟩) hBs).trans hc
 rcases hI.below hW with ⟨rfl,p,cap,rfl⟩ | ⟨b,off,cap,rfl,hb,hcs⟩
 ·exact (zB F n h8 hro l Bs p cap J W hc' h0).mono fun e W' ⟨he,hj⟩=>⟨he,.inl ⟨_,rfl,hj⟩⟩
 ·exact J6 F n h8 hro hn l Bs w.heap.size b off cap zs hreach hb hBs J Jx hY W hc' hcs h0
def oM(zs:List dE)(x:ByteArray):Option dE:=zs.reverse.find? fun z=>decide (z.1=x)
def eZ(zs:List dE)(x:ByteArray)(z0 z1:Value):Value:=match oM zs x with
 | some z=>.tuple #[.agg #[z.k,z.f],.bool true]
 | none=>.tuple #[.agg #[z0,z1],.bool false]
theorem wn(zs:List dE){k:Nat}(hk:k≤zs.length):(back zs k).map (·.2)=zs.reverse.take k:=by
 apply List.ext_getElem
 ·simp[back,hk]
 ·intro i h1 h2
  have hi:i < k:=by simpa [back] using h1
  have h3:zs.length - 1 - i < zs.length:=by omega
  simp[back,h3]
theorem xn{zs:List dE}{x:ByteArray}(h:∀ p∈back zs zs.length,p.2.1≠x):oM zs x=none:=by
 unfold oM
 rw[List.find?_eq_none]
 intro z hz
 have hm:=wn zs (Nat.le_refl _)
 rw[List.take_of_length_le (by simp)] at hm
 rw[← hm] at hz
 obtain⟨p,hp,rfl⟩:=List.mem_map.1 hz
 simpa using h p hp
theorem xo{zs:List dE}{x:ByteArray}{k:Nat}(hk:k≤zs.length){ini:List (Nat×dE)}{last:Nat×dE}(e1:back zs k=ini++[last])(e2:∀ p∈ini,p.2.1≠x)(e3:last.2.1=x):oM zs x=some last.2:=by
 have hm:=wn zs hk
 rw[e1,List.map_append] at hm
 unfold oM
 rw[← List.take_append_drop k zs.reverse,← hm,List.append_assoc,List.find?_append]
 have h1:(ini.map (·.2)).find? (fun z=>decide (z.1=x))=none:=by
  rw[List.find?_eq_none]
  intro z hz
  obtain⟨p,hp,rfl⟩:=List.mem_map.1 hz
  simpa using e2 p hp
 rw[h1]
 simp[e3]
def cV(W:World)(B:Nat)(t:TypeId)(cs:Array Value):Prop:=W.heap[B]? = some (.cells cs t (0,0))
theorem cV.lt{W:World}{B:Nat}{t:TypeId}{cs:Array Value}(h:cV W B t cs):B < W.heap.size:=(Array.getElem?_eq_some_iff.1 h).1
theorem cV.cell{W:World}{B:Nat}{t:TypeId}{cs:Array Value}(h:cV W B t cs)(o:Nat):W.cell? ⟨B,o,none⟩=cs[o]?:=by simp[World.cell?,show W.heap[B]? = _ from h]
theorem cV.frozen{W:World}{B:Nat}{t:TypeId}{cs:Array Value}(h:cV W B t cs)(o:Nat):W.frozen? ⟨B,o,none⟩=false:=by simp[World.frozen?,show W.heap[B]? = _ from h]
theorem cV.new(W:World)(t:TypeId)(cs:Array Value):cV (W.alloc (.cells cs t)) W.heap.size t cs:=World.alloc_heap_new W _
theorem cV.kept{W W':World}{row:Option Nat}{B:Nat}{t:TypeId}{cs:Array Value}(h:cV W B t cs)(hg:W.grownBy W' row)(hne:some B≠row):cV W' B t cs:=(hg.block B h.lt hne).trans h
theorem cV.alloc{W:World}{B:Nat}{t:TypeId}{cs:Array Value}(h:cV W B t cs)(o:Obj):cV (W.alloc o) B t cs:=h.kept (World.grownBy_alloc W o none) (by simp)
theorem cV.put{W:World}{B:Nat}{t:TypeId}{cs:Array Value}(h:cV W B t cs){l:Nat}{o:Obj}(o':Obj)(hl:W.heap[l]? = some o)(ho:o.isCells=false):cV (W.putObj l o') B t cs:=
 h.kept (grownBy_putObj' W l o') (fun e=>by cases e;rw[show W.heap[B]? = _ from h] at hl;cases hl;cases ho)
theorem sO(W:World)(b o:Nat)(v:Value):W.grownBy (W.setCell ⟨b,o,none⟩ v) (some b):=
 ⟨rfl,rfl,rfl,(KeepsWalks.setCell W _ v).size,fun k _ hk=>Below.heap_setCell _ _ _ k (fun e=>hk (by rw[e]))⟩
theorem cV.other{W:World}{B B' o:Nat}{t:TypeId}{cs:Array Value}(h:cV W B t cs)(hne:B≠B')(u:Value):cV (W.setCell ⟨B',o,none⟩ u) B t cs:=h.kept (sO W B' o u) (fun e=>hne (by cases e;rfl))
theorem cV.set{W:World}{B:Nat}{t:TypeId}{cs:Array Value}(h:cV W B t cs)(o:Nat)(v:Value):cV (W.setCell ⟨B,o,none⟩ v) B t (cs.setIfInBounds o v):=by
 obtain⟨hlt,hk⟩:=Array.getElem?_eq_some_iff.1 h
 show (W.heap.modify B _)[B]? = _
 rw[Array.getElem?_eq_getElem (by rw[Array.size_modify];exact hlt),Array.getElem_modify_self,hk]
 rfl
theorem EN{x y:ByteArray}(h:(x.toList== y.toList)=true):x=y:=by
 have:=beq_iff_eq.1 h
 rw[ByteArray.toList_eq,ByteArray.toList_eq] at this
 exact ByteArray.ext (Array.ext' this)
theorem EO{x y:ByteArray}(h:(x.toList== y.toList)=false):x≠y:=by
 rintro rfl
 simp at h
theorem gS{β:Type}(B:Nat)(t:TypeId)(f:β→Array Value):Own (fun s W=>cV W B t (f s)):=fun s X Y row hs hg hrow=>
 hs.kept hg (fun e'=>by obtain⟨o,ho,hc⟩:=hrow B e'.symm;rw[show X.heap[B]? = _ from hs] at ho;cases ho;cases hc)
set_option maxRecDepth 100000 in
set_option maxHeartbeats 4000000 in
theorem Hy(F:Fence)(n:Nat)(h3:F.fn 145)(h5:F.fn 223)(h7:F.fn 288)(hro:F.round=none)(hn:3≤n)(a:Option Addr)(len cap:Nat)(x:ByteArray)(zs:List dE)(hreach:zs.length≤1000000000)(w:World)(hI:nj w.heap.size w (.slice a len cap) zs):
  CallsIn F n Tryz.prog 145 #[.slice a len cap,.string x] w fun e W'=>e= .returned (eZ zs x (.int .i64 0) (.slice none 0 0))∧Below w.heap.size w W':=by
 have h1:1≤n:=by omega
 refine callsIn_of_wp_marks Tryz.func145 rfl h3 ?_ hro
 simp only[Tryz.ntmps145,List.size_toArray,List.length_cons,List.length_nil,Nat.reduceAdd,Nat.reduceSub,Array.replicate_succ,Array.replicate_zero,List.push_toArray,List.append_toArray,List.nil_append,List.cons_append]
 gi_wp2_with (gi_at_call 223;refine (LS F (n - 1) h5 hro _ _ _ _).mono ?_;rintro e w' ⟨rfl,rfl⟩)
 have b0:=(((cV.new w 9 #[.string x]).alloc (.cells #[.int .i64 0,.slice none 0 0] 72)).alloc (.cells #[.bool false] 4)).alloc (.cells #[.slice a len cap] 23)
 have b1:=((cV.new (w.alloc (.cells #[.string x] 9)) 72 #[.int .i64 0,.slice none 0 0]).alloc (.cells #[.bool false] 4)).alloc (.cells #[.slice a len cap] 23)
 have b2:=(cV.new ((w.alloc (.cells #[.string x] 9)).alloc (.cells #[.int .i64 0,.slice none 0 0] 72)) 4 #[.bool false]).alloc (.cells #[.slice a len cap] 23)
 have b3:=cV.new (((w.alloc (.cells #[.string x] 9)).alloc (.cells #[.int .i64 0,.slice none 0 0] 72)).alloc (.cells #[.bool false] 4)) 23 #[.slice a len cap]
 simp only[World.size_alloc] at b1 b2 b3
 have hB0:Below w.heap.size w ((((w.alloc (.cells #[.string x] 9)).alloc (.cells #[.int .i64 0,.slice none 0 0] 72)).alloc (.cells #[.bool false] 4)).alloc (.cells #[.slice a len cap] 23)):=
  ((((Below.refl _ w).alloc (Nat.le_refl _) _).alloc (by simp) _).alloc (by simp;omega) _).alloc (by simp;omega) _
 have hsz:((((w.alloc (.cells #[.string x] 9)).alloc (.cells #[.int .i64 0,.slice none 0 0] 72)).alloc (.cells #[.bool false] 4)).alloc (.cells #[.slice a len cap] 23)).heap.size=w.heap.size + 4:=by simp
 obtain⟨W0,hW0⟩:∃ W0,((((w.alloc (.cells #[.string x] 9)).alloc (.cells #[.int .i64 0,.slice none 0 0] 72)).alloc (.cells #[.bool false] 4)).alloc (.cells #[.slice a len cap] 23))=W0:=⟨_,rfl⟩
 rw[hW0] at b0 b1 b2 b3 hB0 hsz ⊢
 clear hW0
 refine wpIn_rangeFunc_ownH hro h1 (gf:=288) (lb:=#[.pointer (some ⟨w.heap.size + 1 + 1 + 1,0,none⟩)]) rfl h7 (enters_of Tryz.func288 (by kernel_rfl) rfl)
  (Fz F (n - 1) h7 hro (by omega) (w.heap.size + 1 + 1 + 1) _ zs hreach W0 (by omega) (b3.cell 0) ((hI.below hB0).mono (by omega))) belowK_t (belowK_b (Nat.le_refl _)) (Below.refl _ _) (fun _=>rfl)
  (fun pre W=>(∀ p∈pre,p.2.1≠x)∧(cV W w.heap.size 9 #[.string x]∧cV W (w.heap.size + 1) 72 #[.int .i64 0,.slice none 0 0]∧cV W (w.heap.size + 1 + 1) 4 #[.bool false]∧cV W (w.heap.size + 1 + 1 + 1) 23 #[.slice a len cap])∧Below w.heap.size w W)
  (fun c pre W=>(c= .ret∧∃ ini last,pre=ini++[last]∧(∀ p∈ini,p.2.1≠x)∧last.2.1=x∧cV W (w.heap.size + 1) 72 #[last.2.k,last.2.f]∧cV W (w.heap.size + 1 + 1) 4 #[.bool true])∧Below w.heap.size w W)
  ?hI ?hIx ⟨fun _ h=>(by cases h),⟨b0,b1,b2,b3⟩,hB0⟩
  (fun y a' W=>∃ Bx,cV W Bx 87 #[.string y.2.1,y.2.k,y.2.f]∧a'= { tmps:=#[.slice a len cap,.string x,undef,.pointer (some ⟨w.heap.size,0,none⟩),.pointer (some ⟨w.heap.size + 1,0,none⟩),.pointer (some ⟨w.heap.size + 1 + 1,0,none⟩),undef,.pointer (some ⟨Bx,0,none⟩),.slice a len cap,.func (.func 288) #[] #[.pointer (some ⟨w.heap.size + 1 + 1 + 1,0,none⟩)],.int .i64 (y.1:Int),CK y.2,undef,undef,undef,undef,undef,undef,undef],defers:=[] })
  (fun y a' _ X Y row hs hg hr=>by obtain⟨Bx,h2,h3⟩:=hs;exact⟨Bx,gS Bx 87 (fun (_:Unit)=>#[Value.string y.2.1,y.2.k,y.2.f]) () X Y row h2 hg (fun r e=>(hr r e).2),h3⟩)
  ?assign ?body ?done ?stop
 case hI=>exact OwnFrom.and (ownFrom_pure _ _) (OwnFrom.and (OwnFrom.and (Own.from (gS _ _ _) _) (OwnFrom.and (Own.from (gS _ _ _) _) (OwnFrom.and (Own.from (gS _ _ _) _) (Own.from (gS _ _ _) _)))) (ownFrom_below (Nat.le_refl _) (by omega)))
 case hIx=>
  intro c
  refine OwnFrom.and (Own.from (fun s A B row hs hg hr=>?_) _) (ownFrom_below (Nat.le_refl _) (by omega))
  obtain⟨hc,ini,last,e1,e2,e3,e4,e5⟩:=hs
  exact⟨hc,ini,last,e1,e2,e3,gS _ _ (fun (_:Unit)=>#[last.2.k,last.2.f]) () A B row e4 hg hr,gS _ _ (fun (_:Unit)=>#[Value.bool true]) () A B row e5 hg hr⟩
 case assign=>
  rintro l pre y W K ⟨hp,⟨r0,r1,r2,r3⟩,hB⟩ hK
  obtain⟨yi,y1,y2,y3,y4,y5⟩:=y
  simp only[CK,dE.k,dE.f] at hK ⊢
  gi_wp2
  exact hK _ _ ((KeepsOthers.alloc _ _).from _) ((Below.refl _ W).alloc (by have:=r3.lt;omega) _) ⟨hp,⟨r0.alloc _,r1.alloc _,r2.alloc _,r3.alloc _⟩,hB.alloc hB.size _⟩ ⟨W.heap.size,cV.new W _ _,rfl⟩
 case body=>
  rintro l pre y a' W hl ⟨r,hr⟩ ⟨hp,⟨r0,r1,r2,r3⟩,hB⟩ ⟨Bx,rx,rfl⟩ hlt
  obtain⟨yi,y1,y2,y3,y4,y5⟩:=y
  simp only[CK,dE.k,dE.f] at rx ⊢
  have c0:=r0.cell 0
  have sK:=rx.cell 0
  have cx1:=rx.cell 1
  have cx2:=rx.cell 2
  have f10:=r1.frozen 0
  have f11:=r1.frozen 1
  have f20:=r2.frozen 0
  have c10:=r1.cell 0
  have c11:=r1.cell 1
  have c20:=r2.cell 0
  simp at c0 sK cx1 cx2 c10 c11 c20
  gi_wp2
  ·have hx:y1=x:=EN (by assumption)
   have r1':=((r1.set 0 (.int .i64 y2)).set 1 (.slice y3 y4 y5)).other (B':=w.heap.size + 1 + 1) (o:=0) (by omega) (.bool true)
   have r2':=((r2.other (B':=w.heap.size + 1) (o:=0) (by omega) (.int .i64 y2)).other (B':=w.heap.size + 1) (o:=1) (by omega) (.slice y3 y4 y5)).set 0 (.bool true)
   exact⟨(((KeepsOthers.setCell _ _ _).trans (KeepsOthers.setCell _ _ _)).trans (KeepsOthers.setCell _ _ _)).from _,⟨rfl,pre,(yi,y1,y2,y3,y4,y5),rfl,hp,hx,r1',r2'⟩,
    ((hB.setCell (p:=⟨w.heap.size + 1,0,none⟩) (by simp) _).setCell (p:=⟨w.heap.size + 1,1,none⟩) (by simp) _).setCell (p:=⟨w.heap.size + 1 + 1,0,none⟩) (by simp;omega) _⟩
  ·have hx:y1≠x:=EO (by assumption)
   exact⟨KeepsFrom.refl _ _,Below.refl _ _,fun p hp'=>(List.mem_append.1 hp').elim (hp p) (fun e=>by simp at e;subst e;exact hx),⟨r0,r1,r2,r3⟩,hB⟩
 case done=>
  rintro D ys W hD rfl ⟨hne,⟨r0,r1,r2,r3⟩,hB⟩ hK
  have f10:=r1.frozen 0
  have f11:=r1.frozen 1
  have f20:=r2.frozen 0
  have c10:=r1.cell 0
  have c11:=r1.cell 1
  have c20:=r2.cell 0
  simp at c10 c11 c20
  gi_wp2
  have r1':=((r1.set 0 (.int .i64 0)).set 1 (.slice none 0 0)).other (B':=w.heap.size + 1 + 1) (o:=0) (by omega) (.bool false)
  have r2':=((r2.other (B':=w.heap.size + 1) (o:=0) (by omega) (.int .i64 0)).other (B':=w.heap.size + 1) (o:=1) (by omega) (.slice none 0 0)).set 0 (.bool false)
  have hB':=((hB.setCell (p:=⟨w.heap.size + 1,0,none⟩) (by simp) (.int .i64 0)).setCell (p:=⟨w.heap.size + 1,1,none⟩) (by simp) (.slice none 0 0)).setCell (p:=⟨w.heap.size + 1 + 1,0,none⟩) (by simp;omega) (.bool false)
  have hK':=(((KeepsOthers.setCell W ⟨w.heap.size + 1,0,none⟩ (.int .i64 0)).trans (KeepsOthers.setCell _ ⟨w.heap.size + 1,1,none⟩ (.slice none 0 0))).trans (KeepsOthers.setCell _ ⟨w.heap.size + 1 + 1,0,none⟩ (.bool false))).same D _ hK rfl
  refine⟨by simp,.inl ⟨_,_,rfl,run_takeDeferred hK',?_⟩⟩
  have q10:=(r1'.put (.deferred none) hK' rfl).cell 0
  have q11:=(r1'.put (.deferred none) hK' rfl).cell 1
  have q20:=(r2'.put (.deferred none) hK' rfl).cell 0
  simp at q10 q11 q20
  refine⟨.tuple #[.agg #[.int .i64 0,.slice none 0 0],.bool false],?_,?_,hB'.trans (belowK_b (w:=w) (Nat.le_refl _) _ D _ _ (by omega) hK' rfl rfl)⟩
  rotate_left
  ·unfold eZ
   rw[xn hne]
  ·simp[results,Tryz.f145,go_sem,q10,q11,q20]
 case stop=>
  rintro D c pre W hD ⟨k,hk,rfl⟩ ⟨⟨rfl,ini,last,e1,e2,e3,r1,r2⟩,hB⟩ hK
  gi_wp2
  refine⟨by simp,.inl ⟨_,_,rfl,run_takeDeferred hK,?_⟩⟩
  have q10:=(r1.put (.deferred none) hK rfl).cell 0
  have q11:=(r1.put (.deferred none) hK rfl).cell 1
  have q20:=(r2.put (.deferred none) hK rfl).cell 0
  simp at q10 q11 q20
  refine⟨.tuple #[.agg #[last.2.k,last.2.f],.bool true],?_,?_,hB.trans (belowK_b (w:=w) (Nat.le_refl _) W D _ _ (by omega) hK rfl rfl)⟩
  rotate_left
  ·unfold eZ
   rw[xo hk e1 e2 e3]
  ·simp[results,Tryz.f145,go_sem,q10,q11,q20]
end Go.Proofs.YtkkabinknmldeaaGreat
