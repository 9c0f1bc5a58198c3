/- Annotations of the functions, the table of types, the program of the abstract evaluator: written by a program. No condition. -/
import Derived.Test.YteemeakjlfnapaaGreatDoorLd
import Derived.Test.YteemeakjlfnapaaGreatDoorProg
namespace Go.Proofs.YteemeakjlfnapaaGreatDoor
open Go Go.Av
noncomputable def tab : List (Nat × TI) := [
(0, (TI.mk Bool.false 1 0 TK.other [] [AV.any] Bool.false)),
(1, (TI.mk Bool.false 1 8 TK.func [] [AV.nilf] Bool.false)),
(2, (TI.mk Bool.false 1 8 (TK.int IntKind.i64) [] [AV.int IntKind.i64 0] Bool.false)),
(3, (TI.mk Bool.false 1 8 (TK.int IntKind.i64) [] [AV.int IntKind.i64 0] Bool.false)),
(4, (TI.mk Bool.false 1 1 TK.bool [] [AV.bool Bool.false] Bool.false)),
(5, (TI.mk Bool.false 1 1 (TK.int IntKind.u8) [] [AV.int IntKind.u8 0] Bool.false)),
(6, (TI.mk Bool.false 1 1 (TK.int IntKind.u8) [] [AV.int IntKind.u8 0] Bool.false)),
(7, (TI.mk Bool.true 4 24 TK.struct [(0, ((2, Bool.true))), (1, ((3, Bool.true))), (2, ((4, Bool.true))), (3, ((6, Bool.true)))] [AV.int IntKind.i64 0, AV.int IntKind.i64 0, AV.bool Bool.false, AV.int IntKind.u8 0] Bool.true)),
(8, (TI.mk Bool.true 4 24 TK.struct [(0, ((2, Bool.true))), (1, ((3, Bool.true))), (2, ((4, Bool.true))), (3, ((6, Bool.true)))] [AV.int IntKind.i64 0, AV.int IntKind.i64 0, AV.bool Bool.false, AV.int IntKind.u8 0] Bool.true)),
(9, (TI.mk Bool.false 1 16 TK.str [] [AV.str []] Bool.false)),
(10, (TI.mk Bool.false 1 16 TK.str [] [AV.str []] Bool.false)),
(11, (TI.mk Bool.false 1 16 TK.str [] [AV.str []] Bool.false)),
(12, (TI.mk Bool.false 1 8 (TK.int IntKind.u64) [] [AV.int IntKind.u64 0] Bool.false)),
(13, (TI.mk Bool.true 2 24 TK.struct [(0, ((9, Bool.true))), (1, ((12, Bool.true)))] [AV.str [], AV.int IntKind.u64 0] Bool.false)),
(14, (TI.mk Bool.true 2 24 TK.struct [(0, ((9, Bool.true))), (1, ((12, Bool.true)))] [AV.str [], AV.int IntKind.u64 0] Bool.false)),
(15, (TI.mk Bool.false 1 8 TK.ptr [] [AV.nilp] Bool.false)),
(16, (TI.mk Bool.false 1 8 TK.ptr [] [AV.nilp] Bool.false)),
(17, (TI.mk Bool.false 1 8 TK.ptr [] [AV.nilp] Bool.false)),
(18, (TI.mk Bool.true 1 8 TK.struct [(0, ((17, Bool.true)))] [AV.nilp] Bool.false)),
(19, (TI.mk Bool.true 1 8 TK.struct [(0, ((17, Bool.true)))] [AV.nilp] Bool.false)),
(20, (TI.mk Bool.false 1 16 TK.iface [] [AV.nili] Bool.false)),
(21, (TI.mk Bool.false 1 4 (TK.int IntKind.i32) [] [AV.int IntKind.i32 0] Bool.false)),
(22, (TI.mk Bool.false 1 24 (TK.slice 56) [] [AV.sl []] Bool.false)),
(23, (TI.mk Bool.true 2 40 TK.struct [(0, ((9, Bool.true))), (1, ((22, Bool.true)))] [AV.str [], AV.sl []] Bool.true)),
(24, (TI.mk Bool.true 2 40 TK.struct [(0, ((9, Bool.true))), (1, ((22, Bool.true)))] [AV.str [], AV.sl []] Bool.true)),
(25, (TI.mk Bool.false 1 24 (TK.slice 76) [] [AV.sl []] Bool.false)),
(26, (TI.mk Bool.true 2 32 TK.struct [(0, ((3, Bool.true))), (1, ((25, Bool.true)))] [AV.int IntKind.i64 0, AV.sl []] Bool.true)),
(27, (TI.mk Bool.true 2 32 TK.struct [(0, ((3, Bool.true))), (1, ((25, Bool.true)))] [AV.int IntKind.i64 0, AV.sl []] Bool.true)),
(28, (TI.mk Bool.true 3 24 TK.struct [(0, ((3, Bool.true))), (1, ((3, Bool.true))), (2, ((3, Bool.true)))] [AV.int IntKind.i64 0, AV.int IntKind.i64 0, AV.int IntKind.i64 0] Bool.true)),
(29, (TI.mk Bool.true 3 24 TK.struct [(0, ((3, Bool.true))), (1, ((3, Bool.true))), (2, ((3, Bool.true)))] [AV.int IntKind.i64 0, AV.int IntKind.i64 0, AV.int IntKind.i64 0] Bool.true)),
(30, (TI.mk Bool.false 1 8 TK.func [] [AV.nilf] Bool.false)),
(31, (TI.mk Bool.false 1 8 TK.func [] [AV.nilf] Bool.false)),
(32, (TI.mk Bool.false 1 8 TK.func [] [AV.nilf] Bool.false)),
(33, (TI.mk Bool.false 1 0 TK.other [] [AV.any] Bool.false)),
(34, (TI.mk Bool.false 1 8 TK.func [] [AV.nilf] Bool.false)),
(35, (TI.mk Bool.false 1 24 (TK.slice 9) [] [AV.sl []] Bool.false)),
(36, (TI.mk Bool.false 1 24 (TK.slice 47) [] [AV.sl []] Bool.false)),
(37, (TI.mk Bool.false 1 24 (TK.slice 73) [] [AV.sl []] Bool.false)),
(38, (TI.mk Bool.true 3 72 TK.struct [(0, ((25, Bool.true))), (1, ((36, Bool.true))), (2, ((36, Bool.true)))] [AV.sl [], AV.sl [], AV.sl []] Bool.true)),
(39, (TI.mk Bool.true 3 72 TK.struct [(0, ((25, Bool.true))), (1, ((36, Bool.true))), (2, ((36, Bool.true)))] [AV.sl [], AV.sl [], AV.sl []] Bool.true)),
(40, (TI.mk Bool.true 9 192 TK.struct [(0, ((9, Bool.true))), (1, ((35, Bool.true))), (2, ((25, Bool.true))), (3, ((36, Bool.true))), (4, ((37, Bool.true))), (5, ((4, Bool.true))), (6, ((39, Bool.true)))] [AV.str [], AV.sl [], AV.sl [], AV.sl [], AV.sl [], AV.bool Bool.false, AV.sl [], AV.sl [], AV.sl []] Bool.true)),
(41, (TI.mk Bool.true 9 192 TK.struct [(0, ((9, Bool.true))), (1, ((35, Bool.true))), (2, ((25, Bool.true))), (3, ((36, Bool.true))), (4, ((37, Bool.true))), (5, ((4, Bool.true))), (6, ((39, Bool.true)))] [AV.str [], AV.sl [], AV.sl [], AV.sl [], AV.sl [], AV.bool Bool.false, AV.sl [], AV.sl [], AV.sl []] Bool.true)),
(42, (TI.mk Bool.false 1 0 TK.other [] [AV.any] Bool.false)),
(43, (TI.mk Bool.false 1 8 TK.func [] [AV.nilf] Bool.false)),
(44, (TI.mk Bool.false 1 8 TK.func [] [AV.nilf] Bool.false)),
(45, (TI.mk Bool.false 1 8 TK.func [] [AV.nilf] Bool.false)),
(46, (TI.mk Bool.true 6 96 TK.struct [(0, ((3, Bool.true))), (1, ((3, Bool.true))), (2, ((9, Bool.true))), (3, ((9, Bool.true))), (4, ((35, Bool.true))), (5, ((36, Bool.true)))] [AV.int IntKind.i64 0, AV.int IntKind.i64 0, AV.str [], AV.str [], AV.sl [], AV.sl []] Bool.true)),
(47, (TI.mk Bool.true 6 96 TK.struct [(0, ((3, Bool.true))), (1, ((3, Bool.true))), (2, ((9, Bool.true))), (3, ((9, Bool.true))), (4, ((35, Bool.true))), (5, ((36, Bool.true)))] [AV.int IntKind.i64 0, AV.int IntKind.i64 0, AV.str [], AV.str [], AV.sl [], AV.sl []] Bool.true)),
(48, (TI.mk Bool.false 1 8 TK.func [] [AV.nilf] Bool.false)),
(49, (TI.mk Bool.false 1 8 TK.func [] [AV.nilf] Bool.false)),
(50, (TI.mk Bool.false 1 8 TK.func [] [AV.nilf] Bool.false)),
(51, (TI.mk Bool.false 1 8 TK.func [] [AV.nilf] Bool.false)),
(52, (TI.mk Bool.false 1 8 TK.func [] [AV.nilf] Bool.false)),
(53, (TI.mk Bool.false 1 8 TK.func [] [AV.nilf] Bool.false)),
(54, (TI.mk Bool.false 1 24 (TK.slice 27) [] [AV.sl []] Bool.false)),
(55, (TI.mk Bool.true 5 80 TK.struct [(0, ((9, Bool.true))), (1, ((54, Bool.true))), (2, ((27, Bool.true))), (4, ((3, Bool.true)))] [AV.str [], AV.sl [], AV.int IntKind.i64 0, AV.sl [], AV.int IntKind.i64 0] Bool.true)),
(56, (TI.mk Bool.true 5 80 TK.struct [(0, ((9, Bool.true))), (1, ((54, Bool.true))), (2, ((27, Bool.true))), (4, ((3, Bool.true)))] [AV.str [], AV.sl [], AV.int IntKind.i64 0, AV.sl [], AV.int IntKind.i64 0] Bool.true)),
(57, (TI.mk Bool.false 1 8 TK.func [] [AV.nilf] Bool.false)),
(58, (TI.mk Bool.false 1 8 TK.func [] [AV.nilf] Bool.false)),
(59, (TI.mk Bool.false 1 8 (TK.int IntKind.i64) [] [AV.int IntKind.i64 0] Bool.false)),
(60, (TI.mk Bool.false 1 0 TK.other [] [AV.any] Bool.false)),
(61, (TI.mk Bool.false 1 8 TK.func [] [AV.nilf] Bool.false)),
(62, (TI.mk Bool.false 1 0 TK.other [] [AV.any] Bool.false)),
(63, (TI.mk Bool.false 1 8 TK.func [] [AV.nilf] Bool.false)),
(64, (TI.mk Bool.false 1 0 TK.other [] [AV.any] Bool.false)),
(65, (TI.mk Bool.false 1 8 TK.func [] [AV.nilf] Bool.false)),
(66, (TI.mk Bool.false 1 8 TK.func [] [AV.nilf] Bool.false)),
(67, (TI.mk Bool.false 1 8 TK.func [] [AV.nilf] Bool.false)),
(68, (TI.mk Bool.false 1 8 TK.func [] [AV.nilf] Bool.false)),
(69, (TI.mk Bool.false 1 8 TK.func [] [AV.nilf] Bool.false)),
(70, (TI.mk Bool.false 1 8 TK.func [] [AV.nilf] Bool.false)),
(71, (TI.mk Bool.false 1 8 TK.func [] [AV.nilf] Bool.false)),
(72, (TI.mk Bool.true 12 184 TK.struct [(0, ((9, Bool.true))), (1, ((4, Bool.true))), (2, ((25, Bool.true))), (3, ((27, Bool.true))), (5, ((3, Bool.true))), (6, ((47, Bool.true)))] [AV.str [], AV.bool Bool.false, AV.sl [], AV.int IntKind.i64 0, AV.sl [], AV.int IntKind.i64 0, AV.int IntKind.i64 0, AV.int IntKind.i64 0, AV.str [], AV.str [], AV.sl [], AV.sl []] Bool.true)),
(73, (TI.mk Bool.true 12 184 TK.struct [(0, ((9, Bool.true))), (1, ((4, Bool.true))), (2, ((25, Bool.true))), (3, ((27, Bool.true))), (5, ((3, Bool.true))), (6, ((47, Bool.true)))] [AV.str [], AV.bool Bool.false, AV.sl [], AV.int IntKind.i64 0, AV.sl [], AV.int IntKind.i64 0, AV.int IntKind.i64 0, AV.int IntKind.i64 0, AV.str [], AV.str [], AV.sl [], AV.sl []] Bool.true)),
(74, (TI.mk Bool.false 1 8 TK.func [] [AV.nilf] Bool.false)),
(75, (TI.mk Bool.true 3 48 TK.struct [(0, ((9, Bool.true))), (1, ((27, Bool.true)))] [AV.str [], AV.int IntKind.i64 0, AV.sl []] Bool.true)),
(76, (TI.mk Bool.true 3 48 TK.struct [(0, ((9, Bool.true))), (1, ((27, Bool.true)))] [AV.str [], AV.int IntKind.i64 0, AV.sl []] Bool.true)),
(77, (TI.mk Bool.false 1 8 TK.func [] [AV.nilf] Bool.false)),
(78, (TI.mk Bool.false 1 24 (TK.slice 24) [] [AV.sl []] Bool.false)),
(79, (TI.mk Bool.false 1 8 TK.func [] [AV.nilf] Bool.false)),
(80, (TI.mk Bool.false 1 8 TK.func [] [AV.nilf] Bool.false)),
(81, (TI.mk Bool.false 1 8 TK.func [] [AV.nilf] Bool.false)),
(82, (TI.mk Bool.false 1 0 TK.other [] [AV.any] Bool.false)),
(83, (TI.mk Bool.false 1 8 TK.func [] [AV.nilf] Bool.false)),
(84, (TI.mk Bool.false 1 8 TK.func [] [AV.nilf] Bool.false)),
(85, (TI.mk Bool.false 1 8 TK.func [] [AV.nilf] Bool.false)),
(86, (TI.mk Bool.false 1 8 TK.func [] [AV.nilf] Bool.false)),
(87, (TI.mk Bool.false 1 8 TK.func [] [AV.nilf] Bool.false)),
(88, (TI.mk Bool.false 1 8 TK.func [] [AV.nilf] Bool.false)),
(89, (TI.mk Bool.false 1 8 TK.func [] [AV.nilf] Bool.false)),
(90, (TI.mk Bool.false 1 8 TK.func [] [AV.nilf] Bool.false)),
(91, (TI.mk Bool.false 1 8 TK.func [] [AV.nilf] Bool.false)),
(92, (TI.mk Bool.false 1 8 TK.func [] [AV.nilf] Bool.false)),
(93, (TI.mk Bool.false 1 8 TK.func [] [AV.nilf] Bool.false)),
(94, (TI.mk Bool.false 1 8 TK.func [] [AV.nilf] Bool.false)),
(95, (TI.mk Bool.false 1 8 TK.func [] [AV.nilf] Bool.false)),
(96, (TI.mk Bool.false 1 8 TK.func [] [AV.nilf] Bool.false)),
(97, (TI.mk Bool.false 1 8 TK.func [] [AV.nilf] Bool.false)),
(98, (TI.mk Bool.false 1 8 TK.func [] [AV.nilf] Bool.false)),
(99, (TI.mk Bool.false 1 8 TK.func [] [AV.nilf] Bool.false)),
(100, (TI.mk Bool.false 1 8 TK.func [] [AV.nilf] Bool.false)),
(101, (TI.mk Bool.false 1 8 TK.ptr [] [AV.nilp] Bool.false)),
(102, (TI.mk Bool.false 1 24 (TK.slice 5) [] [AV.sl []] Bool.false)),
(103, (TI.mk Bool.true 2 32 TK.struct [(0, ((101, Bool.true))), (1, ((102, Bool.true)))] [AV.nilp, AV.sl []] Bool.true)),
(104, (TI.mk Bool.true 2 32 TK.struct [(0, ((101, Bool.true))), (1, ((102, Bool.true)))] [AV.nilp, AV.sl []] Bool.true)),
(105, (TI.mk Bool.false 1 16 TK.iface [] [AV.nili] Bool.false)),
(106, (TI.mk Bool.false 1 16 TK.iface [] [AV.nili] Bool.false)),
(107, (TI.mk Bool.false 1 0 TK.other [] [AV.any] Bool.false)),
(108, (TI.mk Bool.false 1 8 TK.func [] [AV.nilf] Bool.false)),
(109, (TI.mk Bool.false 1 8 TK.func [] [AV.nilf] Bool.false)),
(110, (TI.mk Bool.false 1 8 TK.func [] [AV.nilf] Bool.false)),
(111, (TI.mk Bool.false 1 8 TK.func [] [AV.nilf] Bool.false)),
(112, (TI.mk Bool.false 1 8 TK.func [] [AV.nilf] Bool.false)),
(113, (TI.mk Bool.false 1 8 TK.func [] [AV.nilf] Bool.false)),
(114, (TI.mk Bool.false 1 8 TK.ptr [] [AV.nilp] Bool.false)),
(115, (TI.mk Bool.false 1 8 TK.func [] [AV.nilf] Bool.false)),
(116, (TI.mk Bool.false 1 8 TK.func [] [AV.nilf] Bool.false)),
(117, (TI.mk Bool.false 1 8 TK.func [] [AV.nilf] Bool.false)),
(118, (TI.mk Bool.false 1 8 TK.ptr [] [AV.nilp] Bool.false)),
(119, (TI.mk Bool.false 1 8 TK.func [] [AV.nilf] Bool.false)),
(120, (TI.mk Bool.false 1 8 TK.func [] [AV.nilf] Bool.false)),
(121, (TI.mk Bool.false 1 8 TK.func [] [AV.nilf] Bool.false)),
(122, (TI.mk Bool.false 1 8 TK.func [] [AV.nilf] Bool.false)),
(123, (TI.mk Bool.false 1 8 TK.func [] [AV.nilf] Bool.false)),
(124, (TI.mk Bool.false 1 8 TK.func [] [AV.nilf] Bool.false)),
(125, (TI.mk Bool.false 1 8 TK.func [] [AV.nilf] Bool.false)),
(126, (TI.mk Bool.false 1 8 TK.func [] [AV.nilf] Bool.false)),
(127, (TI.mk Bool.false 1 8 TK.func [] [AV.nilf] Bool.false)),
(128, (TI.mk Bool.false 1 8 TK.func [] [AV.nilf] Bool.false)),
(129, (TI.mk Bool.false 1 8 TK.func [] [AV.nilf] Bool.false)),
(130, (TI.mk Bool.false 1 8 (TK.map 9 4) [] [AV.nilm] Bool.false)),
(131, (TI.mk Bool.false 1 8 TK.func [] [AV.nilf] Bool.false)),
(132, (TI.mk Bool.false 1 8 TK.func [] [AV.nilf] Bool.false)),
(133, (TI.mk Bool.false 1 8 TK.func [] [AV.nilf] Bool.false)),
(134, (TI.mk Bool.false 1 8 TK.func [] [AV.nilf] Bool.false)),
(135, (TI.mk Bool.false 1 8 TK.ptr [] [AV.nilp] Bool.false)),
(136, (TI.mk Bool.false 1 0 TK.other [] [AV.any] Bool.false)),
(137, (TI.mk Bool.false 1 8 TK.func [] [AV.nilf] Bool.false)),
(138, (TI.mk Bool.false 1 0 TK.other [] [AV.any] Bool.false)),
(139, (TI.mk Bool.false 1 8 (TK.map 9 24) [] [AV.nilm] Bool.false)),
(140, (TI.mk Bool.true 11 208 TK.struct [(0, ((41, Bool.true))), (9, ((139, Bool.true))), (10, ((3, Bool.true)))] [AV.str [], AV.sl [], AV.sl [], AV.sl [], AV.sl [], AV.bool Bool.false, AV.sl [], AV.sl [], AV.sl [], AV.nilm, AV.int IntKind.i64 0] Bool.true)),
(141, (TI.mk Bool.true 11 208 TK.struct [(0, ((41, Bool.true))), (9, ((139, Bool.true))), (10, ((3, Bool.true)))] [AV.str [], AV.sl [], AV.sl [], AV.sl [], AV.sl [], AV.bool Bool.false, AV.sl [], AV.sl [], AV.sl [], AV.nilm, AV.int IntKind.i64 0] Bool.true)),
(142, (TI.mk Bool.false 1 0 TK.other [] [AV.any] Bool.false)),
(143, (TI.mk Bool.false 1 8 TK.func [] [AV.nilf] Bool.false)),
(144, (TI.mk Bool.false 1 8 TK.func [] [AV.nilf] Bool.false)),
(145, (TI.mk Bool.false 1 8 TK.func [] [AV.nilf] Bool.false)),
(146, (TI.mk Bool.false 1 8 TK.func [] [AV.nilf] Bool.false)),
(147, (TI.mk Bool.false 1 8 TK.func [] [AV.nilf] Bool.false)),
(148, (TI.mk Bool.true 3 40 TK.struct [(0, ((104, Bool.true))), (2, ((4, Bool.true)))] [AV.nilp, AV.sl [], AV.bool Bool.false] Bool.true)),
(149, (TI.mk Bool.true 3 40 TK.struct [(0, ((104, Bool.true))), (2, ((4, Bool.true)))] [AV.nilp, AV.sl [], AV.bool Bool.false] Bool.true)),
(150, (TI.mk Bool.false 1 8 TK.func [] [AV.nilf] Bool.false)),
(151, (TI.mk Bool.false 1 8 TK.func [] [AV.nilf] Bool.false)),
(152, (TI.mk Bool.false 1 8 TK.func [] [AV.nilf] Bool.false)),
(153, (TI.mk Bool.false 1 8 TK.func [] [AV.nilf] Bool.false)),
(154, (TI.mk Bool.false 1 8 TK.func [] [AV.nilf] Bool.false)),
(155, (TI.mk Bool.false 1 8 TK.func [] [AV.nilf] Bool.false)),
(156, (TI.mk Bool.false 1 8 TK.func [] [AV.nilf] Bool.false)),
(157, (TI.mk Bool.false 1 8 TK.func [] [AV.nilf] Bool.false)),
(158, (TI.mk Bool.false 1 8 TK.func [] [AV.nilf] Bool.false)),
(159, (TI.mk Bool.false 1 8 TK.func [] [AV.nilf] Bool.false)),
(160, (TI.mk Bool.false 1 8 TK.func [] [AV.nilf] Bool.false)),
(161, (TI.mk Bool.false 1 8 TK.ptr [] [AV.nilp] Bool.false)),
(162, (TI.mk Bool.true 2 24 TK.struct [(0, ((9, Bool.true))), (1, ((4, Bool.true)))] [AV.str [], AV.bool Bool.false] Bool.true)),
(163, (TI.mk Bool.true 2 24 TK.struct [(0, ((9, Bool.true))), (1, ((4, Bool.true)))] [AV.str [], AV.bool Bool.false] Bool.true)),
(164, (TI.mk Bool.false 1 8 TK.func [] [AV.nilf] Bool.false)),
(165, (TI.mk Bool.false 1 8 TK.func [] [AV.nilf] Bool.false)),
(166, (TI.mk Bool.true 2 24 TK.struct [(0, ((9, Bool.true))), (1, ((4, Bool.true)))] [AV.str [], AV.bool Bool.false] Bool.true)),
(167, (TI.mk Bool.true 2 24 TK.struct [(0, ((9, Bool.true))), (1, ((4, Bool.true)))] [AV.str [], AV.bool Bool.false] Bool.true)),
(168, (TI.mk Bool.false 1 8 TK.func [] [AV.nilf] Bool.false)),
(169, (TI.mk Bool.false 1 8 TK.func [] [AV.nilf] Bool.false)),
(170, (TI.mk Bool.false 1 8 TK.func [] [AV.nilf] Bool.false)),
(171, (TI.mk Bool.false 1 8 TK.func [] [AV.nilf] Bool.false)),
(172, (TI.mk Bool.false 1 8 TK.func [] [AV.nilf] Bool.false)),
(173, (TI.mk Bool.false 1 8 TK.func [] [AV.nilf] Bool.false)),
(174, (TI.mk Bool.false 1 8 TK.func [] [AV.nilf] Bool.false)),
(175, (TI.mk Bool.false 1 8 (TK.int IntKind.u64) [] [AV.int IntKind.u64 0] Bool.false)),
(176, (TI.mk Bool.false 1 8 TK.func [] [AV.nilf] Bool.false)),
(177, (TI.mk Bool.false 1 8 TK.func [] [AV.nilf] Bool.false)),
(178, (TI.mk Bool.false 1 8 TK.func [] [AV.nilf] Bool.false)),
(179, (TI.mk Bool.false 1 8 TK.func [] [AV.nilf] Bool.false)),
(180, (TI.mk Bool.false 1 0 TK.other [] [AV.any] Bool.false)),
(181, (TI.mk Bool.false 1 8 TK.func [] [AV.nilf] Bool.false)),
(182, (TI.mk Bool.false 1 0 TK.other [] [AV.any] Bool.false)),
(183, (TI.mk Bool.false 1 8 TK.func [] [AV.nilf] Bool.false)),
(184, (TI.mk Bool.false 1 8 TK.func [] [AV.nilf] Bool.false)),
(185, (TI.mk Bool.false 1 8 TK.func [] [AV.nilf] Bool.false)),
(186, (TI.mk Bool.false 1 8 TK.func [] [AV.nilf] Bool.false)),
(187, (TI.mk Bool.false 1 8 TK.ptr [] [AV.nilp] Bool.false)),
(188, (TI.mk Bool.false 1 8 TK.func [] [AV.nilf] Bool.false)),
(189, (TI.mk Bool.false 1 8 TK.func [] [AV.nilf] Bool.false)),
(190, (TI.mk Bool.false 1 8 TK.func [] [AV.nilf] Bool.false)),
(191, (TI.mk Bool.false 1 8 TK.func [] [AV.nilf] Bool.false)),
(192, (TI.mk Bool.false 1 8 TK.func [] [AV.nilf] Bool.false)),
(193, (TI.mk Bool.false 1 8 TK.func [] [AV.nilf] Bool.false)),
(194, (TI.mk Bool.false 1 8 TK.func [] [AV.nilf] Bool.false)),
(195, (TI.mk Bool.false 1 8 TK.func [] [AV.nilf] Bool.false)),
(196, (TI.mk Bool.false 1 24 (TK.slice 3) [] [AV.sl []] Bool.false)),
(197, (TI.mk Bool.false 1 8 TK.func [] [AV.nilf] Bool.false)),
(198, (TI.mk Bool.false 1 8 TK.other [] [AV.nilp] Bool.false)),
(199, (TI.mk Bool.false 1 8 TK.func [] [AV.nilf] Bool.false)),
(200, (TI.mk Bool.false 1 8 TK.func [] [AV.nilf] Bool.false)),
(201, (TI.mk Bool.false 1 0 TK.other [] [AV.any] Bool.false)),
(202, (TI.mk Bool.false 1 8 TK.func [] [AV.nilf] Bool.false)),
(203, (TI.mk Bool.false 1 8 TK.func [] [AV.nilf] Bool.false)),
(204, (TI.mk Bool.false 1 8 (TK.int IntKind.i64) [] [AV.int IntKind.i64 0] Bool.false)),
(205, (TI.mk Bool.false 1 0 TK.other [] [AV.any] Bool.false)),
(206, (TI.mk Bool.false 1 8 TK.func [] [AV.nilf] Bool.false)),
(207, (TI.mk Bool.false 1 8 TK.func [] [AV.nilf] Bool.false)),
(208, (TI.mk Bool.false 1 8 TK.func [] [AV.nilf] Bool.false)),
(209, (TI.mk Bool.false 1 0 TK.other [] [AV.any] Bool.false)),
(210, (TI.mk Bool.false 1 8 TK.func [] [AV.nilf] Bool.false)),
(211, (TI.mk Bool.false 1 8 TK.func [] [AV.nilf] Bool.false)),
(212, (TI.mk Bool.false 1 4 (TK.int IntKind.u32) [] [AV.int IntKind.u32 0] Bool.false)),
(213, (TI.mk Bool.false 1 8 TK.func [] [AV.nilf] Bool.false)),
(214, (TI.mk Bool.false 1 8 (TK.int IntKind.u64) [] [AV.int IntKind.u64 0] Bool.false)),
(215, (TI.mk Bool.false 1 0 TK.other [] [AV.any] Bool.false)),
(216, (TI.mk Bool.false 1 8 TK.func [] [AV.nilf] Bool.false)),
(217, (TI.mk Bool.false 1 8 TK.func [] [AV.nilf] Bool.false)),
(218, (TI.mk Bool.false 1 8 TK.func [] [AV.nilf] Bool.false)),
(219, (TI.mk Bool.false 1 8 TK.func [] [AV.nilf] Bool.false)),
(220, (TI.mk Bool.false 1 8 TK.func [] [AV.nilf] Bool.false)),
(221, (TI.mk Bool.false 1 8 TK.func [] [AV.nilf] Bool.false)),
(222, (TI.mk Bool.false 1 24 (TK.slice 225) [] [AV.sl []] Bool.false)),
(223, (TI.mk Bool.false 1 8 TK.func [] [AV.nilf] Bool.false)),
(224, (TI.mk Bool.true 3 32 TK.struct [(0, ((9, Bool.true))), (1, ((3, Bool.true))), (2, ((3, Bool.true)))] [AV.str [], AV.int IntKind.i64 0, AV.int IntKind.i64 0] Bool.true)),
(225, (TI.mk Bool.true 3 32 TK.struct [(0, ((9, Bool.true))), (1, ((3, Bool.true))), (2, ((3, Bool.true)))] [AV.str [], AV.int IntKind.i64 0, AV.int IntKind.i64 0] Bool.true)),
(226, (TI.mk Bool.false 1 8 TK.func [] [AV.nilf] Bool.false)),
(227, (TI.mk Bool.false 1 8 TK.func [] [AV.nilf] Bool.false)),
(228, (TI.mk Bool.true 256 256 (TK.array 256 5) [] [AV.int IntKind.u8 0, AV.int IntKind.u8 0, AV.int IntKind.u8 0, AV.int IntKind.u8 0, AV.int IntKind.u8 0, AV.int IntKind.u8 0, AV.int IntKind.u8 0, AV.int IntKind.u8 0, AV.int IntKind.u8 0, AV.int IntKind.u8 0, AV.int IntKind.u8 0, AV.int IntKind.u8 0, AV.int IntKind.u8 0, AV.int IntKind.u8 0, AV.int IntKind.u8 0, AV.int IntKind.u8 0, AV.int IntKind.u8 0, AV.int IntKind.u8 0, AV.int IntKind.u8 0, AV.int IntKind.u8 0, AV.int IntKind.u8 0, AV.int IntKind.u8 0, AV.int IntKind.u8 0, AV.int IntKind.u8 0, AV.int IntKind.u8 0, AV.int IntKind.u8 0, AV.int IntKind.u8 0, AV.int IntKind.u8 0, AV.int IntKind.u8 0, AV.int IntKind.u8 0, AV.int IntKind.u8 0, AV.int IntKind.u8 0, AV.int IntKind.u8 0, AV.int IntKind.u8 0, AV.int IntKind.u8 0, AV.int IntKind.u8 0, AV.int IntKind.u8 0, AV.int IntKind.u8 0, AV.int IntKind.u8 0, AV.int IntKind.u8 0, AV.int IntKind.u8 0, AV.int IntKind.u8 0, AV.int IntKind.u8 0, AV.int IntKind.u8 0, AV.int IntKind.u8 0, AV.int IntKind.u8 0, AV.int IntKind.u8 0, AV.int IntKind.u8 0, AV.int IntKind.u8 0, AV.int IntKind.u8 0, AV.int IntKind.u8 0, AV.int IntKind.u8 0, AV.int IntKind.u8 0, AV.int IntKind.u8 0, AV.int IntKind.u8 0, AV.int IntKind.u8 0, AV.int IntKind.u8 0, AV.int IntKind.u8 0, AV.int IntKind.u8 0, AV.int IntKind.u8 0, AV.int IntKind.u8 0, AV.int IntKind.u8 0, AV.int IntKind.u8 0, AV.int IntKind.u8 0, AV.int IntKind.u8 0, AV.int IntKind.u8 0, AV.int IntKind.u8 0, AV.int IntKind.u8 0, AV.int IntKind.u8 0, AV.int IntKind.u8 0, AV.int IntKind.u8 0, AV.int IntKind.u8 0, AV.int IntKind.u8 0, AV.int IntKind.u8 0, AV.int IntKind.u8 0, AV.int IntKind.u8 0, AV.int IntKind.u8 0, AV.int IntKind.u8 0, AV.int IntKind.u8 0, AV.int IntKind.u8 0, AV.int IntKind.u8 0, AV.int IntKind.u8 0, AV.int IntKind.u8 0, AV.int IntKind.u8 0, AV.int IntKind.u8 0, AV.int IntKind.u8 0, AV.int IntKind.u8 0, AV.int IntKind.u8 0, AV.int IntKind.u8 0, AV.int IntKind.u8 0, AV.int IntKind.u8 0, AV.int IntKind.u8 0, AV.int IntKind.u8 0, AV.int IntKind.u8 0, AV.int IntKind.u8 0, AV.int IntKind.u8 0, AV.int IntKind.u8 0, AV.int IntKind.u8 0, AV.int IntKind.u8 0, AV.int IntKind.u8 0, AV.int IntKind.u8 0, AV.int IntKind.u8 0, AV.int IntKind.u8 0, AV.int IntKind.u8 0, AV.int IntKind.u8 0, AV.int IntKind.u8 0, AV.int IntKind.u8 0, AV.int IntKind.u8 0, AV.int IntKind.u8 0, AV.int IntKind.u8 0, AV.int IntKind.u8 0, AV.int IntKind.u8 0, AV.int IntKind.u8 0, AV.int IntKind.u8 0, AV.int IntKind.u8 0, AV.int IntKind.u8 0, AV.int IntKind.u8 0, AV.int IntKind.u8 0, AV.int IntKind.u8 0, AV.int IntKind.u8 0, AV.int IntKind.u8 0, AV.int IntKind.u8 0, AV.int IntKind.u8 0, AV.int IntKind.u8 0, AV.int IntKind.u8 0, AV.int IntKind.u8 0, AV.int IntKind.u8 0, AV.int IntKind.u8 0, AV.int IntKind.u8 0, AV.int IntKind.u8 0, AV.int IntKind.u8 0, AV.int IntKind.u8 0, AV.int IntKind.u8 0, AV.int IntKind.u8 0, AV.int IntKind.u8 0, AV.int IntKind.u8 0, AV.int IntKind.u8 0, AV.int IntKind.u8 0, AV.int IntKind.u8 0, AV.int IntKind.u8 0, AV.int IntKind.u8 0, AV.int IntKind.u8 0, AV.int IntKind.u8 0, AV.int IntKind.u8 0, AV.int IntKind.u8 0, AV.int IntKind.u8 0, AV.int IntKind.u8 0, AV.int IntKind.u8 0, AV.int IntKind.u8 0, AV.int IntKind.u8 0, AV.int IntKind.u8 0, AV.int IntKind.u8 0, AV.int IntKind.u8 0, AV.int IntKind.u8 0, AV.int IntKind.u8 0, AV.int IntKind.u8 0, AV.int IntKind.u8 0, AV.int IntKind.u8 0, AV.int IntKind.u8 0, AV.int IntKind.u8 0, AV.int IntKind.u8 0, AV.int IntKind.u8 0, AV.int IntKind.u8 0, AV.int IntKind.u8 0, AV.int IntKind.u8 0, AV.int IntKind.u8 0, AV.int IntKind.u8 0, AV.int IntKind.u8 0, AV.int IntKind.u8 0, AV.int IntKind.u8 0, AV.int IntKind.u8 0, AV.int IntKind.u8 0, AV.int IntKind.u8 0, AV.int IntKind.u8 0, AV.int IntKind.u8 0, AV.int IntKind.u8 0, AV.int IntKind.u8 0, AV.int IntKind.u8 0, AV.int IntKind.u8 0, AV.int IntKind.u8 0, AV.int IntKind.u8 0, AV.int IntKind.u8 0, AV.int IntKind.u8 0, AV.int IntKind.u8 0, AV.int IntKind.u8 0, AV.int IntKind.u8 0, AV.int IntKind.u8 0, AV.int IntKind.u8 0, AV.int IntKind.u8 0, AV.int IntKind.u8 0, AV.int IntKind.u8 0, AV.int IntKind.u8 0, AV.int IntKind.u8 0, AV.int IntKind.u8 0, AV.int IntKind.u8 0, AV.int IntKind.u8 0, AV.int IntKind.u8 0, AV.int IntKind.u8 0, AV.int IntKind.u8 0, AV.int IntKind.u8 0, AV.int IntKind.u8 0, AV.int IntKind.u8 0, AV.int IntKind.u8 0, AV.int IntKind.u8 0, AV.int IntKind.u8 0, AV.int IntKind.u8 0, AV.int IntKind.u8 0, AV.int IntKind.u8 0, AV.int IntKind.u8 0, AV.int IntKind.u8 0, AV.int IntKind.u8 0, AV.int IntKind.u8 0, AV.int IntKind.u8 0, AV.int IntKind.u8 0, AV.int IntKind.u8 0, AV.int IntKind.u8 0, AV.int IntKind.u8 0, AV.int IntKind.u8 0, AV.int IntKind.u8 0, AV.int IntKind.u8 0, AV.int IntKind.u8 0, AV.int IntKind.u8 0, AV.int IntKind.u8 0, AV.int IntKind.u8 0, AV.int IntKind.u8 0, AV.int IntKind.u8 0, AV.int IntKind.u8 0, AV.int IntKind.u8 0, AV.int IntKind.u8 0, AV.int IntKind.u8 0, AV.int IntKind.u8 0, AV.int IntKind.u8 0, AV.int IntKind.u8 0, AV.int IntKind.u8 0, AV.int IntKind.u8 0, AV.int IntKind.u8 0, AV.int IntKind.u8 0, AV.int IntKind.u8 0, AV.int IntKind.u8 0, AV.int IntKind.u8 0, AV.int IntKind.u8 0, AV.int IntKind.u8 0, AV.int IntKind.u8 0, AV.int IntKind.u8 0, AV.int IntKind.u8 0, AV.int IntKind.u8 0, AV.int IntKind.u8 0, AV.int IntKind.u8 0, AV.int IntKind.u8 0, AV.int IntKind.u8 0, AV.int IntKind.u8 0, AV.int IntKind.u8 0, AV.int IntKind.u8 0, AV.int IntKind.u8 0, AV.int IntKind.u8 0, AV.int IntKind.u8 0] Bool.false)),
(229, (TI.mk Bool.false 1 8 TK.func [] [AV.nilf] Bool.false)),
(230, (TI.mk Bool.false 1 8 TK.func [] [AV.nilf] Bool.false)),
(231, (TI.mk Bool.false 1 8 TK.func [] [AV.nilf] Bool.false)),
(232, (TI.mk Bool.false 1 8 TK.func [] [AV.nilf] Bool.false)),
(233, (TI.mk Bool.false 1 8 TK.func [] [AV.nilf] Bool.false)),
(234, (TI.mk Bool.false 1 8 (TK.int IntKind.u64) [] [AV.int IntKind.u64 0] Bool.false)),
(235, (TI.mk Bool.false 1 8 TK.func [] [AV.nilf] Bool.false)),
(236, (TI.mk Bool.false 1 8 TK.func [] [AV.nilf] Bool.false)),
(237, (TI.mk Bool.false 1 8 TK.func [] [AV.nilf] Bool.false)),
(238, (TI.mk Bool.false 1 8 TK.ptr [] [AV.nilp] Bool.false)),
(239, (TI.mk Bool.false 1 8 TK.func [] [AV.nilf] Bool.false)),
(240, (TI.mk Bool.false 1 8 TK.func [] [AV.nilf] Bool.false)),
(241, (TI.mk Bool.false 1 8 TK.func [] [AV.nilf] Bool.false)),
(242, (TI.mk Bool.false 1 8 TK.func [] [AV.nilf] Bool.false)),
(243, (TI.mk Bool.false 1 8 TK.func [] [AV.nilf] Bool.false)),
(244, (TI.mk Bool.false 1 24 (TK.slice 246) [] [AV.sl []] Bool.false)),
(245, (TI.mk Bool.true 2 16 TK.struct [(0, ((3, Bool.true))), (1, ((3, Bool.true)))] [AV.int IntKind.i64 0, AV.int IntKind.i64 0] Bool.true)),
(246, (TI.mk Bool.true 2 16 TK.struct [(0, ((3, Bool.true))), (1, ((3, Bool.true)))] [AV.int IntKind.i64 0, AV.int IntKind.i64 0] Bool.true)),
(247, (TI.mk Bool.false 1 8 TK.func [] [AV.nilf] Bool.false)),
(248, (TI.mk Bool.false 1 8 TK.ptr [] [AV.nilp] Bool.false)),
(249, (TI.mk Bool.false 1 8 TK.func [] [AV.nilf] Bool.false)),
(250, (TI.mk Bool.true 24 24 (TK.array 24 5) [] [AV.int IntKind.u8 0, AV.int IntKind.u8 0, AV.int IntKind.u8 0, AV.int IntKind.u8 0, AV.int IntKind.u8 0, AV.int IntKind.u8 0, AV.int IntKind.u8 0, AV.int IntKind.u8 0, AV.int IntKind.u8 0, AV.int IntKind.u8 0, AV.int IntKind.u8 0, AV.int IntKind.u8 0, AV.int IntKind.u8 0, AV.int IntKind.u8 0, AV.int IntKind.u8 0, AV.int IntKind.u8 0, AV.int IntKind.u8 0, AV.int IntKind.u8 0, AV.int IntKind.u8 0, AV.int IntKind.u8 0, AV.int IntKind.u8 0, AV.int IntKind.u8 0, AV.int IntKind.u8 0, AV.int IntKind.u8 0] Bool.false)),
(251, (TI.mk Bool.false 1 8 TK.func [] [AV.nilf] Bool.false)),
(252, (TI.mk Bool.false 1 0 TK.other [] [AV.any] Bool.false)),
(253, (TI.mk Bool.false 1 8 TK.func [] [AV.nilf] Bool.false)),
(254, (TI.mk Bool.false 1 8 (TK.int IntKind.i64) [] [AV.int IntKind.i64 0] Bool.false)),
(255, (TI.mk Bool.false 1 0 TK.other [] [AV.any] Bool.false)),
(256, (TI.mk Bool.false 1 8 TK.func [] [AV.nilf] Bool.false)),
(257, (TI.mk Bool.false 1 8 TK.ptr [] [AV.nilp] Bool.false)),
(258, (TI.mk Bool.false 1 8 TK.func [] [AV.nilf] Bool.false)),
(259, (TI.mk Bool.false 1 8 TK.func [] [AV.nilf] Bool.false)),
(260, (TI.mk Bool.false 1 8 TK.ptr [] [AV.nilp] Bool.false)),
(261, (TI.mk Bool.false 1 0 TK.other [] [AV.any] Bool.false)),
(262, (TI.mk Bool.false 1 8 TK.func [] [AV.nilf] Bool.false)),
(263, (TI.mk Bool.false 1 8 TK.func [] [AV.nilf] Bool.false)),
(264, (TI.mk Bool.false 1 24 (TK.slice 270) [] [AV.sl []] Bool.false)),
(265, (TI.mk Bool.false 1 24 (TK.slice 273) [] [AV.sl []] Bool.false)),
(266, (TI.mk Bool.true 3 56 TK.struct [(0, ((264, Bool.true))), (1, ((265, Bool.true))), (2, ((3, Bool.true)))] [AV.sl [], AV.sl [], AV.int IntKind.i64 0] Bool.true)),
(267, (TI.mk Bool.true 3 56 TK.struct [(0, ((264, Bool.true))), (1, ((265, Bool.true))), (2, ((3, Bool.true)))] [AV.sl [], AV.sl [], AV.int IntKind.i64 0] Bool.true)),
(268, (TI.mk Bool.false 1 2 (TK.int IntKind.u16) [] [AV.int IntKind.u16 0] Bool.false)),
(269, (TI.mk Bool.true 3 6 TK.struct [(0, ((268, Bool.true))), (1, ((268, Bool.true))), (2, ((268, Bool.true)))] [AV.int IntKind.u16 0, AV.int IntKind.u16 0, AV.int IntKind.u16 0] Bool.true)),
(270, (TI.mk Bool.true 3 6 TK.struct [(0, ((268, Bool.true))), (1, ((268, Bool.true))), (2, ((268, Bool.true)))] [AV.int IntKind.u16 0, AV.int IntKind.u16 0, AV.int IntKind.u16 0] Bool.true)),
(271, (TI.mk Bool.false 1 8 TK.func [] [AV.nilf] Bool.false)),
(272, (TI.mk Bool.true 3 12 TK.struct [(0, ((212, Bool.true))), (1, ((212, Bool.true))), (2, ((212, Bool.true)))] [AV.int IntKind.u32 0, AV.int IntKind.u32 0, AV.int IntKind.u32 0] Bool.true)),
(273, (TI.mk Bool.true 3 12 TK.struct [(0, ((212, Bool.true))), (1, ((212, Bool.true))), (2, ((212, Bool.true)))] [AV.int IntKind.u32 0, AV.int IntKind.u32 0, AV.int IntKind.u32 0] Bool.true)),
(274, (TI.mk Bool.false 1 8 TK.func [] [AV.nilf] Bool.false)),
(275, (TI.mk Bool.false 1 0 TK.other [] [AV.any] Bool.false)),
(276, (TI.mk Bool.false 1 8 TK.func [] [AV.nilf] Bool.false)),
(277, (TI.mk Bool.false 1 8 TK.func [] [AV.nilf] Bool.false)),
(278, (TI.mk Bool.true 20 160 (TK.array 20 214) [] [AV.int IntKind.u64 0, AV.int IntKind.u64 0, AV.int IntKind.u64 0, AV.int IntKind.u64 0, AV.int IntKind.u64 0, AV.int IntKind.u64 0, AV.int IntKind.u64 0, AV.int IntKind.u64 0, AV.int IntKind.u64 0, AV.int IntKind.u64 0, AV.int IntKind.u64 0, AV.int IntKind.u64 0, AV.int IntKind.u64 0, AV.int IntKind.u64 0, AV.int IntKind.u64 0, AV.int IntKind.u64 0, AV.int IntKind.u64 0, AV.int IntKind.u64 0, AV.int IntKind.u64 0, AV.int IntKind.u64 0] Bool.false)),
(279, (TI.mk Bool.true 65 65 (TK.array 65 5) [] [AV.int IntKind.u8 0, AV.int IntKind.u8 0, AV.int IntKind.u8 0, AV.int IntKind.u8 0, AV.int IntKind.u8 0, AV.int IntKind.u8 0, AV.int IntKind.u8 0, AV.int IntKind.u8 0, AV.int IntKind.u8 0, AV.int IntKind.u8 0, AV.int IntKind.u8 0, AV.int IntKind.u8 0, AV.int IntKind.u8 0, AV.int IntKind.u8 0, AV.int IntKind.u8 0, AV.int IntKind.u8 0, AV.int IntKind.u8 0, AV.int IntKind.u8 0, AV.int IntKind.u8 0, AV.int IntKind.u8 0, AV.int IntKind.u8 0, AV.int IntKind.u8 0, AV.int IntKind.u8 0, AV.int IntKind.u8 0, AV.int IntKind.u8 0, AV.int IntKind.u8 0, AV.int IntKind.u8 0, AV.int IntKind.u8 0, AV.int IntKind.u8 0, AV.int IntKind.u8 0, AV.int IntKind.u8 0, AV.int IntKind.u8 0, AV.int IntKind.u8 0, AV.int IntKind.u8 0, AV.int IntKind.u8 0, AV.int IntKind.u8 0, AV.int IntKind.u8 0, AV.int IntKind.u8 0, AV.int IntKind.u8 0, AV.int IntKind.u8 0, AV.int IntKind.u8 0, AV.int IntKind.u8 0, AV.int IntKind.u8 0, AV.int IntKind.u8 0, AV.int IntKind.u8 0, AV.int IntKind.u8 0, AV.int IntKind.u8 0, AV.int IntKind.u8 0, AV.int IntKind.u8 0, AV.int IntKind.u8 0, AV.int IntKind.u8 0, AV.int IntKind.u8 0, AV.int IntKind.u8 0, AV.int IntKind.u8 0, AV.int IntKind.u8 0, AV.int IntKind.u8 0, AV.int IntKind.u8 0, AV.int IntKind.u8 0, AV.int IntKind.u8 0, AV.int IntKind.u8 0, AV.int IntKind.u8 0, AV.int IntKind.u8 0, AV.int IntKind.u8 0, AV.int IntKind.u8 0, AV.int IntKind.u8 0] Bool.false)),
(280, (TI.mk Bool.false 1 0 TK.other [] [AV.any] Bool.false)),
(281, (TI.mk Bool.false 1 8 TK.func [] [AV.nilf] Bool.false)),
(282, (TI.mk Bool.true 3 48 TK.struct [(0, ((9, Bool.true))), (1, ((9, Bool.true))), (2, ((106, Bool.true)))] [AV.str [], AV.str [], AV.nili] Bool.false)),
(283, (TI.mk Bool.true 3 48 TK.struct [(0, ((9, Bool.true))), (1, ((9, Bool.true))), (2, ((106, Bool.true)))] [AV.str [], AV.str [], AV.nili] Bool.false)),
(284, (TI.mk Bool.false 1 8 TK.func [] [AV.nilf] Bool.false)),
(285, (TI.mk Bool.false 1 8 TK.ptr [] [AV.nilp] Bool.false)),
(286, (TI.mk Bool.false 1 8 TK.ptr [] [AV.nilp] Bool.false)),
(287, (TI.mk Bool.false 1 8 TK.func [] [AV.nilf] Bool.false)),
(288, (TI.mk Bool.false 1 8 TK.ptr [] [AV.nilp] Bool.false)),
(289, (TI.mk Bool.true 1 16 TK.struct [(0, ((9, Bool.true)))] [AV.str []] Bool.true)),
(290, (TI.mk Bool.true 1 16 TK.struct [(0, ((9, Bool.true)))] [AV.str []] Bool.true)),
(291, (TI.mk Bool.true 32 32 (TK.array 32 5) [] [AV.int IntKind.u8 0, AV.int IntKind.u8 0, AV.int IntKind.u8 0, AV.int IntKind.u8 0, AV.int IntKind.u8 0, AV.int IntKind.u8 0, AV.int IntKind.u8 0, AV.int IntKind.u8 0, AV.int IntKind.u8 0, AV.int IntKind.u8 0, AV.int IntKind.u8 0, AV.int IntKind.u8 0, AV.int IntKind.u8 0, AV.int IntKind.u8 0, AV.int IntKind.u8 0, AV.int IntKind.u8 0, AV.int IntKind.u8 0, AV.int IntKind.u8 0, AV.int IntKind.u8 0, AV.int IntKind.u8 0, AV.int IntKind.u8 0, AV.int IntKind.u8 0, AV.int IntKind.u8 0, AV.int IntKind.u8 0, AV.int IntKind.u8 0, AV.int IntKind.u8 0, AV.int IntKind.u8 0, AV.int IntKind.u8 0, AV.int IntKind.u8 0, AV.int IntKind.u8 0, AV.int IntKind.u8 0, AV.int IntKind.u8 0] Bool.false)),
(292, (TI.mk Bool.true 64 64 (TK.array 64 5) [] [AV.int IntKind.u8 0, AV.int IntKind.u8 0, AV.int IntKind.u8 0, AV.int IntKind.u8 0, AV.int IntKind.u8 0, AV.int IntKind.u8 0, AV.int IntKind.u8 0, AV.int IntKind.u8 0, AV.int IntKind.u8 0, AV.int IntKind.u8 0, AV.int IntKind.u8 0, AV.int IntKind.u8 0, AV.int IntKind.u8 0, AV.int IntKind.u8 0, AV.int IntKind.u8 0, AV.int IntKind.u8 0, AV.int IntKind.u8 0, AV.int IntKind.u8 0, AV.int IntKind.u8 0, AV.int IntKind.u8 0, AV.int IntKind.u8 0, AV.int IntKind.u8 0, AV.int IntKind.u8 0, AV.int IntKind.u8 0, AV.int IntKind.u8 0, AV.int IntKind.u8 0, AV.int IntKind.u8 0, AV.int IntKind.u8 0, AV.int IntKind.u8 0, AV.int IntKind.u8 0, AV.int IntKind.u8 0, AV.int IntKind.u8 0, AV.int IntKind.u8 0, AV.int IntKind.u8 0, AV.int IntKind.u8 0, AV.int IntKind.u8 0, AV.int IntKind.u8 0, AV.int IntKind.u8 0, AV.int IntKind.u8 0, AV.int IntKind.u8 0, AV.int IntKind.u8 0, AV.int IntKind.u8 0, AV.int IntKind.u8 0, AV.int IntKind.u8 0, AV.int IntKind.u8 0, AV.int IntKind.u8 0, AV.int IntKind.u8 0, AV.int IntKind.u8 0, AV.int IntKind.u8 0, AV.int IntKind.u8 0, AV.int IntKind.u8 0, AV.int IntKind.u8 0, AV.int IntKind.u8 0, AV.int IntKind.u8 0, AV.int IntKind.u8 0, AV.int IntKind.u8 0, AV.int IntKind.u8 0, AV.int IntKind.u8 0, AV.int IntKind.u8 0, AV.int IntKind.u8 0, AV.int IntKind.u8 0, AV.int IntKind.u8 0, AV.int IntKind.u8 0, AV.int IntKind.u8 0] Bool.false)),
(293, (TI.mk Bool.true 4 40 TK.struct [(0, ((17, Bool.true))), (1, ((17, Bool.true))), (2, ((17, Bool.true))), (3, ((9, Bool.true)))] [AV.nilp, AV.nilp, AV.nilp, AV.str []] Bool.false)),
(294, (TI.mk Bool.true 4 40 TK.struct [(0, ((17, Bool.true))), (1, ((17, Bool.true))), (2, ((17, Bool.true))), (3, ((9, Bool.true)))] [AV.nilp, AV.nilp, AV.nilp, AV.str []] Bool.false)),
(295, (TI.mk Bool.true 0 0 (TK.array 0 16) [] [] Bool.false)),
(296, (TI.mk Bool.true 0 0 TK.struct [(0, ((295, Bool.false)))] [] Bool.false)),
(297, (TI.mk Bool.true 0 0 TK.struct [(0, ((295, Bool.false)))] [] Bool.false)),
(298, (TI.mk Bool.false 1 1 (TK.int IntKind.u8) [] [AV.int IntKind.u8 0] Bool.false)),
(299, (TI.mk Bool.false 1 1 (TK.int IntKind.u8) [] [AV.int IntKind.u8 0] Bool.false)),
(300, (TI.mk Bool.false 1 8 TK.func [] [AV.nilf] Bool.false)),
(301, (TI.mk Bool.false 1 4 (TK.int IntKind.i32) [] [AV.int IntKind.i32 0] Bool.false)),
(302, (TI.mk Bool.false 1 4 (TK.int IntKind.i32) [] [AV.int IntKind.i32 0] Bool.false)),
(303, (TI.mk Bool.true 11 48 TK.struct [(0, ((12, Bool.true))), (1, ((12, Bool.true))), (2, ((212, Bool.true))), (3, ((298, Bool.true))), (4, ((5, Bool.true))), (5, ((5, Bool.true))), (6, ((299, Bool.true))), (7, ((300, Bool.true))), (8, ((161, Bool.true))), (9, ((301, Bool.true))), (10, ((302, Bool.true)))] [AV.int IntKind.u64 0, AV.int IntKind.u64 0, AV.int IntKind.u32 0, AV.int IntKind.u8 0, AV.int IntKind.u8 0, AV.int IntKind.u8 0, AV.int IntKind.u8 0, AV.nilf, AV.nilp, AV.int IntKind.i32 0, AV.int IntKind.i32 0] Bool.false)),
(304, (TI.mk Bool.true 11 48 TK.struct [(0, ((12, Bool.true))), (1, ((12, Bool.true))), (2, ((212, Bool.true))), (3, ((298, Bool.true))), (4, ((5, Bool.true))), (5, ((5, Bool.true))), (6, ((299, Bool.true))), (7, ((300, Bool.true))), (8, ((161, Bool.true))), (9, ((301, Bool.true))), (10, ((302, Bool.true)))] [AV.int IntKind.u64 0, AV.int IntKind.u64 0, AV.int IntKind.u32 0, AV.int IntKind.u8 0, AV.int IntKind.u8 0, AV.int IntKind.u8 0, AV.int IntKind.u8 0, AV.nilf, AV.nilp, AV.int IntKind.i32 0, AV.int IntKind.i32 0] Bool.false))]
def findT : List (Nat × TI) → Nat → Option TI
  | [], _ => none
  | (k, x) :: r, t => bif Nat.beq k t then some x else findT r t
noncomputable def T : TT := findT tab
def ann3 : Ann := { kinds := [(18, .S), (20, .S)], nl := [24, 28, 33, 39, 40, 45, 46, 51, 52, 57, 58, 76, 77, 85, 87, 92, 93, 96, 97], lw := [18, 20] }
def ann4 : Ann := { nl := [19, 23, 28, 34, 35, 40, 41, 46, 47, 52, 53, 58, 59, 68] }
def ann5 : Ann := { nl := [16, 20, 25, 26, 32, 33, 56, 57, 65, 66, 72, 73], loops := [(0, { vals := [(4, none), (5, none), (6, none), (7, none), (9, none), (10, none), (11, none)] })] }
def ann6 : Ann := { kinds := [(18, .S), (20, .S), (22, .S), (24, .S)], nl := [27, 31, 36, 41, 57, 62, 77, 83, 97, 98, 108, 109, 119, 121, 127, 129, 134, 135, 137, 138, 143, 144, 146, 147, 152, 153], lw := [18, 20, 22, 24] }
def ann7 : Ann := { hb := [13], no := [107], nl := [17, 21, 26, 32, 36, 44, 47, 50, 51, 56, 57, 60, 61, 65, 66, 71, 73, 77, 79, 84, 90, 93, 116, 120, 126, 127, 132, 135, 140, 142, 145], lw := [12, 13, 15, 76, 80, 81, 103, 109], joins := [(97, { vals := [(4, none), (5, none), (9, none), (10, none), (14, none), (13000, none), (13001, none), (13002, none), (13003, none), (13004, none), (14000, none), (14001, some 2), (14002, none), (14003, none), (14004, none), (16000, none), (16001, none)], locs := [(12, 13000, 0), (13, 14000, 0), (15, 16000, 0)], lbs := [(13000, 5), (14000, 5), (16000, 2)] })], loops := [(0, { vals := [(3, none), (4, none), (5, none), (6, none), (9, none), (10, none), (11, none)] }), (2, { vals := [(4, none), (5, none), (9, none), (10, none), (14, none), (13000, none), (13001, none), (13002, none), (13003, none), (13004, none), (14000, none), (14001, some 2), (14002, none), (14003, none), (14004, none)], locs := [(12, 13000, 0), (13, 14000, 0)], lbs := [(13000, 5), (14000, 5)] })], nils := [(13, [1])] }
def ann8 : Ann := { kinds := [(8, .S), (10, .S), (12, .S)], nl := [17, 27, 33, 64, 65, 86, 91, 97], lw := [8, 10, 12], joins := [(49, { vals := [(1, none), (5, none)] })] }
def ann9 : Ann := { kinds := [(4, .S), (10, .S)], hb := [7], no := [114], nl := [14, 18, 20, 25, 29, 31, 35, 41, 44, 46, 68, 74, 83, 97, 100, 106, 119, 124, 126, 131, 139, 145], lw := [4, 6, 7, 9, 10, 30, 32, 61, 110, 116], joins := [(1000001, { vals := [(1, none), (3, none), (4, none), (5, none), (8, none), (7000, none), (7001, none), (7002, none), (7003, none), (7004, none), (7005, none), (7006, none), (7007, none), (7008, none), (8000, none), (8001, none), (8002, none), (8003, none), (8004, some 12), (8005, none), (8006, none), (8007, none), (8008, none)], locs := [(6, 7000, 0), (7, 8000, 0)], lbs := [(7000, 9), (8000, 9)] })], loops := [(0, { vals := [(1, none), (3, none), (4, none), (5, none), (8, none), (7000, none), (7001, none), (7002, none), (7003, none), (7004, none), (7005, none), (7006, none), (7007, none), (7008, none), (8000, none), (8001, none), (8002, none), (8003, none), (8004, some 12), (8005, none), (8006, none), (8007, none), (8008, none)], locs := [(6, 7000, 0), (7, 8000, 0)], lbs := [(7000, 9), (8000, 9)] }), (2, { vals := [(1, none), (3, none), (4, none), (5, none), (8, none), (10, none), (12, none), (7000, none), (7001, none), (7002, none), (7003, none), (7004, none), (7005, none), (7006, none), (7007, none), (7008, none), (8000, none), (8001, none), (8002, none), (8003, none), (8004, some 12), (8005, none), (8006, none), (8007, none), (8008, none), (10000, none), (10001, none), (10002, none), (10003, none), (10004, none), (10005, none), (10006, none), (10007, none), (10008, none), (10009, none), (10010, none), (10011, none)], locs := [(6, 7000, 0), (7, 8000, 0), (9, 10000, 0)], lbs := [(7000, 9), (8000, 9), (10000, 12)] })], nils := [(7, [4])] }
def ann10 : Ann := { kinds := [(8, .S)], no := [83, 90], nl := [15, 19, 25, 26, 31, 32, 63, 68, 74, 76, 81, 82, 88, 89, 96], lw := [8] }
def ann11 : Ann := { no := [38, 45], nl := [15, 19, 24, 30, 31, 36, 37, 43, 44] }
def ann12 : Ann := { kinds := [(10, .S)], hb := [7, 54], no := [77], nl := [18, 22, 33, 38, 41, 46, 53, 57, 63, 65, 71, 80, 83, 92, 97, 114, 118, 127, 131], lw := [6, 7, 9, 10, 51, 73, 79], loops := [(0, { vals := [(1, none), (2, none), (5, none), (8, none), (7000, none), (7001, none), (7002, none), (7003, none), (7004, none), (7005, none), (7006, none), (7007, none), (7008, none), (8000, none), (8001, none), (8002, none), (8003, none), (8004, some 12), (8005, none), (8006, none), (8007, none), (8008, none)], locs := [(6, 7000, 0), (7, 8000, 0)], lbs := [(7000, 9), (8000, 9)] })], nils := [(7, [4])] }
def ann13 : Ann := { kinds := [(5, .L), (6, .L), (7, .L), (13, .S), (14, .S), (17, .S)], no := [68, 70, 72, 78, 80, 91, 93], nl := [35, 61, 75, 82, 88, 95, 103, 113, 114], lw := [13, 14, 17, 65, 66, 67], loops := [(0, { vals := [(3, none), (9, none), (11, none), (12, none), (6000, none), (6001, none), (6002, none), (6003, none), (6004, none), (7000, none), (7001, none), (7002, none), (7003, none), (7004, none), (8000, none), (8001, none), (8002, none), (8003, none), (8004, none)], locs := [(5, 6000, 0), (6, 7000, 0), (7, 8000, 0)], lbs := [(6000, 5), (7000, 5), (8000, 5)] })] }
def ann14 : Ann := { kinds := [(1, .S), (2, .S), (3, .S), (14, .S), (18, .S), (21, .S), (22, .S)], fz := [26, 29, 32, 83], no := [25, 28, 31, 75], nl := [35, 36, 41, 42, 47, 48, 53, 54, 59, 60, 65, 66, 71, 78, 83, 150, 151, 155, 156, 160, 161], lw := [1, 2, 3, 14, 18, 21, 22] }
def ann15 : Ann := { kinds := [(4, .S)], no := [40], nl := [7, 17, 20, 22, 27, 33, 39, 45, 50], lw := [4], loops := [(0, { vals := [(1, none), (3, none)] })] }
def ann16 : Ann := { nl := [3, 7] }
def ann17 : Ann := { kinds := [(6, .S), (8, .S)], nl := [10, 11, 15, 16, 22, 24, 25], lw := [6, 8] }
def ann18 : Ann := { kinds := [(6, .S), (8, .S)], nl := [10, 11, 15, 16, 23, 25, 26], lw := [6, 8] }
def ann19 : Ann := { kinds := [(6, .S), (11, .S), (12, .S)], hb := [9, 35], no := [47, 60, 62], nl := [13, 14, 19, 20, 28, 32, 34, 37, 42, 45, 52, 54, 59, 61], lw := [4, 6, 9, 11, 12, 49], joins := [(30, { vals := [(2, none), (6, none), (8, none), (5000, none), (5001, none), (5002, none), (5003, none), (5004, none), (5005, none), (5006, none), (5007, none), (5008, none)], locs := [(4, 5000, 0)], lbs := [(5000, 9)] })], loops := [(0, { vals := [(2, none), (6, none), (8, none), (37, none), (38, none), (39, none), (5000, none), (5001, none), (5002, none), (5003, none), (5004, none), (5005, none), (5006, none), (5007, none), (5008, none), (10000, none), (10001, none), (10002, none), (10003, none), (10004, none), (10005, some 6)], locs := [(4, 5000, 0), (9, 10000, 0)], lbs := [(5000, 9), (10000, 6)] })], nils := [(9, [5])] }
def ann20 : Ann := { kinds := [(6, .S)], hb := [8, 28], no := [44, 49, 61], nl := [11, 12, 17, 18, 25, 27, 31, 39, 42, 48, 52, 56, 58], lw := [4, 6, 8, 10, 46, 54, 62], joins := [(53, { vals := [(6, none), (5000, none), (5001, none), (5002, none), (5003, none), (5004, none), (5005, none), (5006, none), (5007, none), (5008, none), (9000, none), (9001, none), (9002, none), (9003, none), (9004, none), (9005, some 6), (11000, none), (11001, none), (11002, none), (11003, none), (11004, none), (11005, none), (11006, none), (11007, none), (11008, none)], locs := [(4, 5000, 0), (8, 9000, 0), (10, 11000, 0)], lbs := [(5000, 9), (9000, 6), (11000, 9)] })], loops := [(0, { vals := [(2, none), (6, none), (9, none), (5000, none), (5001, none), (5002, none), (5003, none), (5004, none), (5005, none), (5006, none), (5007, none), (5008, none), (9000, none), (9001, none), (9002, none), (9003, none), (9004, none), (9005, some 6)], locs := [(4, 5000, 0), (8, 9000, 0)], lbs := [(5000, 9), (9000, 6)] })], nils := [(8, [5])] }
def ann21 : Ann := { nl := [8, 11, 16, 22, 25, 27, 30, 35, 38, 43, 46, 52, 55, 59, 61, 65, 67, 72, 74, 79, 81, 86, 88], loops := [(0, { vals := [(2, none), (3, none), (5, none)] })] }
def ann22 : Ann := { nl := [6, 8, 12, 14, 19, 21, 26, 28, 33, 35, 40, 42] }
def ann23 : Ann := { nl := [3, 7], lw := [2] }
def ann24 : Ann := { hb := [3, 17], no := [33, 45], nl := [5, 10, 14, 20, 28, 32, 39, 43], lw := [2, 3, 35, 47], loops := [(0, { vals := [(1, none), (4, none), (3000, none), (3001, none), (3002, none), (3003, none), (3004, none), (3005, none), (4000, none), (4001, none), (4002, none), (4003, none), (4004, some 1), (4005, some 6)], locs := [(2, 3000, 0), (3, 4000, 0)], lbs := [(3000, 6), (4000, 6)] })], nils := [(3, [4, 5])] }
def ann25 : Ann := { nl := [14, 15] }
def ann26 : Ann := { nl := [8, 9] }
def ann27 : Ann := { kinds := [(4, .S)], nl := [6, 11, 16, 22, 23, 31, 36, 38], lw := [4], loops := [(0, { vals := [(1, none), (16, none), (17, none), (18, none)] })] }
def ann28 : Ann := { nl := [6, 10, 15, 16, 22, 24, 28, 30] }
def ann29 : Ann := { kinds := [(1, .S), (2, .S), (5, .S), (7, .S), (9, .S), (11, .S), (12, .S), (13, .S)], no := [16, 21, 44, 46, 48, 50], nl := [23, 26, 35, 40, 64, 65, 69, 81, 86, 87, 91, 92, 97, 104], lw := [1, 2, 5, 7, 9, 11, 12, 13] }
def ann30 : Ann := { nl := [6, 16, 20, 25, 29, 35, 39, 44, 49, 55, 60, 66, 72, 78], loops := [(0, { vals := [(1, none), (3, none)] })] }
def ann31 : Ann := { nl := [6, 16, 19, 23], loops := [(0, { vals := [(1, none), (3, none)] })] }
def ann32 : Ann := { nl := [6, 16, 19, 23, 28], loops := [(0, { vals := [(1, none), (3, none)] })] }
def ann33 : Ann := { kinds := [(4, .B), (6, .S), (8, .S)], nl := [9, 13, 16, 22, 27, 29, 32, 38, 43, 44, 48, 51], lw := [6, 8], loops := [(0, { vals := [(4, none), (22, none), (23, none), (24, none)] }), (2, { vals := [(4, none), (6, none), (22, none), (23, none), (24, none), (38, none), (39, none), (40, none)] })] }
def ann34 : Ann := { kinds := [(6, .S)], nl := [8, 12, 15, 21, 27, 30, 33, 37, 43, 50, 53, 58, 62], lw := [6], loops := [(0, { vals := [(1, none), (4, none), (5, none)] }), (2, { vals := [(1, none), (4, none), (5, none), (6, none), (7, none)] })] }
def ann35 : Ann := { hb := [5, 7, 15, 36], no := [59, 71], lw := [2, 5, 7, 61, 64, 67, 73], loops := [(0, { vals := [(0, none), (4, none), (6, none), (3000, none), (3001, none), (6000, none), (6001, some 5)], locs := [(2, 3000, 0), (5, 6000, 0)], lbs := [(3000, 2), (6000, 2)] }), (2, { vals := [(0, none), (4, none), (6, none), (8, none), (3000, none), (3001, none), (6000, none), (6001, some 5), (8000, none), (8001, some 2), (8002, none), (8003, none), (8004, none)], locs := [(2, 3000, 0), (5, 6000, 0), (7, 8000, 0)], lbs := [(3000, 2), (6000, 2), (8000, 5)] })], nils := [(5, [1]), (7, [1])] }
def ann36 : Ann := { hb := [5, 8, 17, 36], no := [57, 69], lw := [2, 5, 8, 59, 62, 65, 71], loops := [(0, { vals := [(0, none), (4, none), (6, none), (7, none), (3000, none), (3001, none), (6000, none), (6001, some 5)], locs := [(2, 3000, 0), (5, 6000, 0)], lbs := [(3000, 2), (6000, 2)] }), (2, { vals := [(0, none), (4, none), (6, none), (7, none), (9, none), (10, none), (3000, none), (3001, none), (6000, none), (6001, some 5), (9000, none), (9001, some 2), (9002, none), (9003, none), (9004, none)], locs := [(2, 3000, 0), (5, 6000, 0), (8, 9000, 0)], lbs := [(3000, 2), (6000, 2), (9000, 5)] })], nils := [(5, [1]), (8, [1])] }
def ann37 : Ann := { kinds := [(9, .S)], hl := [37], nl := [11, 18, 21, 37, 41], lw := [4, 7, 9, 28, 29], loops := [(0, { vals := [(31, none), (32, none), (33, none), (5000, none), (5001, none), (5002, none), (5003, none), (5004, none), (8000, none), (8001, none), (8002, none), (8003, none), (8004, none)], locs := [(4, 5000, 0), (7, 8000, 0)], lbs := [(5000, 5), (8000, 5)] })], ords := [(5, [0, 1, 3, 4, 2, 5, 6, 7, 8, 9])] }
def ann38 : Ann := { nl := [9, 15, 19, 23, 26], lw := [4], loops := [(0, { vals := [(1, none), (2, none), (6, none), (5000, none), (5001, none), (5002, none), (5003, none), (5004, none)], locs := [(4, 5000, 0)], lbs := [(5000, 5)] })] }
def ann39 : Ann := { nl := [7, 9, 13, 16, 22, 28, 31, 33, 36], loops := [(0, { vals := [(2, none), (3, none), (5, none)] })] }
def ann40 : Ann := { nl := [7, 9, 13, 15, 20, 23, 29, 31, 37, 43, 46, 48, 51], loops := [(0, { vals := [(2, none), (3, none), (5, none)] })] }
def ann41 : Ann := { kinds := [(4, .S)], nl := [7, 12, 18, 24, 27, 29, 37, 42, 44, 50, 56, 61, 66, 72, 78, 81], lw := [4], loops := [(0, { vals := [(1, none), (3, none)] }), (2, { vals := [(1, none), (3, none), (4, none), (5, none)] })] }
def ann42 : Ann := { kinds := [(5, .S), (8, .S)], hb := [3, 6, 15, 33], no := [46, 53], nl := [9, 14, 17, 22, 24, 27, 29, 32, 35, 40, 44], lw := [2, 3, 5, 6, 8, 48, 55], loops := [(0, { vals := [(17, none), (18, none), (19, none), (3000, none), (3001, none), (4000, none), (4001, some 5)], locs := [(2, 3000, 0), (3, 4000, 0)], lbs := [(3000, 2), (4000, 2)] }), (2, { vals := [(17, none), (18, none), (19, none), (35, none), (36, none), (37, none), (3000, none), (3001, none), (4000, none), (4001, some 5), (7000, none), (7001, some 2), (7002, none), (7003, none), (7004, none)], locs := [(2, 3000, 0), (3, 4000, 0), (6, 7000, 0)], lbs := [(3000, 2), (4000, 2), (7000, 5)] })], nils := [(3, [1]), (6, [1])] }
def ann43 : Ann := { kinds := [(5, .S)], hb := [3, 6, 15, 37], no := [53, 62], nl := [9, 14, 18, 24, 27, 29, 32, 34, 36, 40, 48, 52, 74, 87], lw := [2, 3, 5, 6, 55, 64], joins := [(1000001, { vals := [(1, none), (4, none), (3000, none), (3001, none), (4000, none), (4001, some 5)], locs := [(2, 3000, 0), (3, 4000, 0)], lbs := [(3000, 2), (4000, 2)] })], loops := [(0, { vals := [(1, none), (4, none), (3000, none), (3001, none), (4000, none), (4001, some 5)], locs := [(2, 3000, 0), (3, 4000, 0)], lbs := [(3000, 2), (4000, 2)] }), (2, { vals := [(1, none), (4, none), (5, none), (7, none), (3000, none), (3001, none), (4000, none), (4001, some 5), (7000, none), (7001, some 2), (7002, none), (7003, none), (7004, none)], locs := [(2, 3000, 0), (3, 4000, 0), (6, 7000, 0)], lbs := [(3000, 2), (4000, 2), (7000, 5)] }), (4, { vals := [(1, none), (4, none), (8, none), (3000, none), (3001, none), (4000, none), (4001, some 5), (7000, none), (7001, some 2), (7002, none), (7003, none), (7004, none)], locs := [(2, 3000, 0), (3, 4000, 0), (6, 7000, 0)], lbs := [(3000, 2), (4000, 2), (7000, 5)] })], nils := [(3, [1]), (6, [1])] }
def ann44 : Ann := { nl := [6, 8, 12, 14, 19, 21] }
def ann45 : Ann := { nl := [7, 10, 15, 17, 23, 25, 28, 33, 39, 42, 44, 47], loops := [(0, { vals := [(2, none), (3, none), (5, none)] })] }
def ann46 : Ann := { nl := [6, 8, 12, 14] }
def ann47 : Ann := { nl := [3] }
def ann48 : Ann := { kinds := [(8, .S)], nl := [13, 18, 32, 37, 40, 44, 50, 56, 62, 68, 74, 77, 82, 88, 94, 100, 102, 109, 112, 115, 121, 126, 133], lw := [8], joins := [(116, { vals := [(1, none), (9, none), (10, none)] })], loops := [(0, { vals := [(1, none), (3, none), (13, none), (14, none), (15, none)] }), (2, { vals := [(1, none), (6, none), (32, none), (33, none), (34, none)] })] }
def ann49 : Ann := { nl := [6, 8, 12, 14] }
def ann50 : Ann := { kinds := [(10, .S), (15, .S), (16, .S)], nl := [19, 27, 32, 37, 42, 52, 58, 67, 72, 79, 81, 89, 92, 94, 98, 103, 105, 109], lw := [10, 15, 16], loops := [(0, { vals := [(2, none), (6, none), (32, none), (33, none), (34, none)] }), (2, { vals := [(6, none), (67, none), (68, none), (69, none)] })] }
def ann51 : Ann := { kinds := [(4, .S)], nl := [8, 18, 21, 23, 28, 34, 40, 46, 56, 59, 63, 68, 74, 80, 85, 91, 97, 103], lw := [4], loops := [(0, { vals := [(1, none), (3, none)] }), (2, { vals := [(1, none), (5, none)] })] }
def ann52 : Ann := { nl := [3] }
def ann53 : Ann := { nl := [3] }
def ann54 : Ann := { kinds := [(14, .S)], nl := [20, 25, 31, 42, 50, 55], lw := [8, 14] }
def ann55 : Ann := { nl := [6, 12, 15, 18], loops := [(0, { vals := [(1, none), (3, none)] })] }
def ann56 : Ann := { nl := [5, 8, 12, 13] }
def ann57 : Ann := { no := [6, 10], nl := [7], lw := [4] }
def ann58 : Ann := { iso := false, ha := [20], hb := [5], no := [19], nl := [17], lw := [2, 3, 21], loops := [(0, { vals := [(0, none), (4, none), (3000, none), (3001, none), (4000, none), (4001, none)], locs := [(2, 3000, 0), (3, 4000, 0)], lbs := [(3000, 2), (4000, 2)] })] }
def ann59 : Ann := { kinds := [(4, .B), (8, .S), (10, .S)], no := [16, 27, 41, 46, 68, 74, 80], nl := [11, 15, 20, 25, 32, 38, 40, 44, 49, 52, 57, 62, 63, 67, 72, 78, 84], lw := [8, 10], joins := [(67, { vals := [(4, none)] })], loops := [(0, { vals := [(1, none), (4, none), (20, none), (21, none), (22, none)] }), (2, { vals := [(1, none), (4, none), (32, none), (33, none), (34, none)] }), (4, { vals := [(1, none), (4, none), (57, none), (58, none), (59, none)] })] }
def ann60 : Ann := { kinds := [(4, .B)], nl := [5, 8] }
def ann61 : Ann := { nl := [13], loops := [(0, { vals := [(0, none), (3, none)] })] }
def ann62 : Ann := { nl := [9, 21, 25], loops := [(0, { vals := [(1, none), (2, none), (5, none), (6, none)] })] }
def ann63 : Ann := { nl := [6, 12, 16, 21, 25], loops := [(0, { vals := [(1, none), (3, none)] })] }
def ann64 : Ann := { nl := [6, 8, 11, 15] }
def ann65 : Ann := { kinds := [(7, .S), (8, .S)], nl := [11, 16, 18, 20, 27, 28, 32], lw := [4, 7, 8], loops := [(0, { vals := [(3, none), (11, none), (12, none), (13, none), (5000, none), (5001, none), (5002, none), (5003, none), (5004, none)], locs := [(4, 5000, 0)], lbs := [(5000, 5)] })] }
def ann66 : Ann := { nl := [5, 8, 13, 15] }
def ann67 : Ann := { kinds := [(7, .S)], nl := [11, 17, 19, 23, 30, 32, 35, 40, 43], lw := [4, 7], loops := [(0, { vals := [(2, none), (3, none), (6, none), (5000, none), (5001, none), (5002, none), (5003, none), (5004, none)], locs := [(4, 5000, 0)], lbs := [(5000, 5)] })] }
def ann68 : Ann := { kinds := [(5, .S)], hb := [3, 14], no := [26, 34], nl := [7, 16, 21, 25, 32], lw := [2, 3, 5, 28, 36], loops := [(1, { vals := [(16, none), (17, none), (18, none), (3000, none), (3001, none), (3002, none), (3003, none), (3004, none), (3005, none), (4000, none), (4001, none), (4002, none), (4003, none), (4004, some 1), (4005, some 6)], locs := [(2, 3000, 0), (3, 4000, 0)], lbs := [(3000, 6), (4000, 6)] })], nils := [(3, [4, 5])] }
def ann69 : Ann := { nl := [6, 8, 12, 14, 19, 21, 26, 28, 33, 35, 40, 42] }
def ann70 : Ann := { nl := [21, 26, 33, 38], loops := [(0, { vals := [(0, none), (1, none), (5, none)] })] }
def ann71 : Ann := { nl := [20, 24], loops := [(0, { vals := [(0, none), (1, none), (5, none)] })] }
def ann72 : Ann := { nl := [20, 24], loops := [(0, { vals := [(0, none), (1, none), (5, none)] })] }
def ann73 : Ann := { nl := [3] }
def ann74 : Ann := { nl := [3] }
def ann75 : Ann := { nl := [5, 9, 14, 15, 20, 22, 25, 27] }
def ann76 : Ann := {  }
def ann77 : Ann := { nl := [4, 9, 15, 21, 26] }
def ann78 : Ann := { nl := [4, 6, 8, 13, 15, 17] }
def ann79 : Ann := { no := [20], nl := [6, 8, 11, 13, 16, 18] }
def ann80 : Ann := { hb := [3, 5], no := [19], nl := [17], lw := [2, 3, 21], loops := [(0, { vals := [(0, none), (4, none), (3000, none), (3001, none), (4000, none), (4001, some 3)], locs := [(2, 3000, 0), (3, 4000, 0)], lbs := [(3000, 2), (4000, 2)] })], nils := [(3, [1])] }
def ann81 : Ann := { nl := [18], loops := [(0, { vals := [(0, none), (3, none)] })] }
def ann82 : Ann := { nl := [17], loops := [(0, { vals := [(0, none), (3, none)] })] }
def ann83 : Ann := { iso := false, hl := [12], ha := [14], hb := [14], nl := [12] }
def ann84 : Ann := {  }
def ann85 : Ann := {  }
def ann86 : Ann := { iso := false, kinds := [(5, .S)], nl := [8, 12, 16, 21, 26, 29, 34], lw := [5], loops := [(0, { vals := [(0, none), (21, none), (22, none), (23, none)] })] }
def ann88 : Ann := {  }
def ann89 : Ann := {  }
def ann90 : Ann := { nl := [6, 9, 14, 20, 27, 31, 35, 39], loops := [(0, { vals := [(1, none), (3, none), (4, none)] })] }
def ann91 : Ann := { iso := false, kinds := [(5, .H)], hb := [4] }
def ann92 : Ann := { iso := false, hl := [11, 19, 26, 36], nl := [11, 19, 26, 36] }
def ann93 : Ann := { iso := false }
def ann94 : Ann := { iso := false, hl := [6], nl := [6] }
def ann95 : Ann := { iso := false, hb := [5, 10], no := [48], lw := [4, 5, 7, 44, 50], loops := [(0, { vals := [(0, none), (1, none), (6, none), (5000, none), (5001, none), (6000, none), (6001, some 3)], locs := [(4, 5000, 0), (5, 6000, 0)], lbs := [(5000, 2), (6000, 2)] })], nils := [(5, [1])] }
def ann96 : Ann := { iso := false, kinds := [(5, .H)], hb := [4] }
def ann97 : Ann := { iso := false, hl := [10, 16, 25, 32], nl := [10, 16, 25, 32] }
def ann98 : Ann := { iso := false }
def ann99 : Ann := { iso := false, hl := [6], nl := [6] }
def ann100 : Ann := { iso := false, kinds := [(9, .S)], hb := [5, 12], no := [48], nl := [46], lw := [4, 5, 9, 50], loops := [(0, { vals := [(0, none), (1, none), (6, none), (7, none), (5000, none), (5001, none), (6000, none), (6001, some 3)], locs := [(4, 5000, 0), (5, 6000, 0)], lbs := [(5000, 2), (6000, 2)] })], nils := [(5, [1])] }
def ann101 : Ann := { nl := [15], loops := [(0, { vals := [(0, none), (1, none), (7, none), (8, none)] })] }
def ann102 : Ann := { nl := [5, 6] }
def ann103 : Ann := { iso := false, ha := [7] }
def ann104 : Ann := { kinds := [(1, .L), (4, .S)], hl := [16], nl := [16, 21], lw := [2, 4, 8], loops := [(0, { vals := [(10, none), (11, none), (12, none), (2000, none), (2001, none), (3000, none), (3001, none)], locs := [(1, 2000, 0), (2, 3000, 0)], lbs := [(2000, 2), (3000, 2)] })] }
def ann105 : Ann := { nl := [7, 9, 13, 16, 22, 28, 32, 34, 38, 42, 46, 48, 52], loops := [(0, { vals := [(2, none), (3, none), (5, none)] })] }
def ann106 : Ann := {  }
def ann108 : Ann := { nl := [6, 8] }
def ann109 : Ann := {  }
def ann110 : Ann := { kinds := [(5, .S)], no := [64], nl := [7, 12, 18, 24, 30, 33, 39, 45, 51, 57, 60, 63, 67, 72, 78, 84, 92, 96, 100, 105, 111, 116, 119, 126, 130, 137, 143], lw := [5], loops := [(0, { vals := [(1, none), (3, some 1), (4, none)] })] }
def ann111 : Ann := { kinds := [(8, .S), (9, .S)], nl := [21, 25, 27, 28], lw := [8, 9], loops := [(0, { vals := [(1, none), (2, none), (15, none), (16, none), (17, none)] })] }
def ann112 : Ann := { nl := [5, 8, 12, 13] }
def ann113 : Ann := { kinds := [(8, .S), (9, .S)], nl := [21, 25, 27, 28], lw := [8, 9], loops := [(0, { vals := [(1, none), (2, none), (15, none), (16, none), (17, none)] })] }
def ann114 : Ann := { nl := [6, 8, 12, 14, 19, 21, 26, 28] }
def ann115 : Ann := { nl := [6, 8, 12, 14] }
def ann116 : Ann := { kinds := [(6, .S)], nl := [11, 16, 21, 27, 31, 37, 43, 45, 53, 55, 60, 66], lw := [6], loops := [(0, { vals := [(1, none), (2, none), (37, none), (38, none), (39, none)] })] }
def ann117 : Ann := { kinds := [(7, .S)], nl := [14, 17, 21, 27, 33], lw := [7], loops := [(0, { vals := [(0, none), (1, none), (5, none), (9, none), (10, none), (11, none)] })] }
def ann118 : Ann := { nl := [3] }
def ann119 : Ann := { kinds := [(6, .S)], nl := [12, 13], lw := [6], loops := [(0, { vals := [(0, none), (1, none), (7, none), (8, none), (9, none)] })] }
def ann120 : Ann := { kinds := [(8, .S), (9, .S)], nl := [21, 25, 27, 28], lw := [8, 9], loops := [(0, { vals := [(1, none), (2, none), (15, none), (16, none), (17, none)] })] }
def ann121 : Ann := { nl := [6, 8, 12, 14] }
def ann122 : Ann := { iso := false, kinds := [(8, .S), (10, .S), (11, .S), (16, .H)], hl := [44, 55], hb := [15], nl := [13, 22, 24, 29, 31, 36, 44, 46, 55, 57, 58], lw := [8, 10, 11], loops := [(0, { vals := [(6, none), (17, none), (18, none), (19, none)] }), (2, { vals := [(6, none), (8, none), (17, none), (18, none), (19, none), (24, none), (25, none), (26, none)] })] }
def ann123 : Ann := { kinds := [(5, .S), (8, .S), (11, .S)], nl := [14, 20, 22, 24, 27, 29, 34, 38, 41, 47, 49, 52, 55, 58, 60, 65, 70, 76, 78, 80, 83, 86, 88, 93], lw := [5, 8, 11], loops := [(0, { vals := [(1, none), (14, none), (15, none), (16, none)] }), (2, { vals := [(1, none), (41, none), (42, none), (43, none)] }), (4, { vals := [(1, none), (70, none), (71, none), (72, none)] })] }
def ann124 : Ann := { iso := false, kinds := [(8, .S), (10, .S)], hl := [95], no := [51], nl := [15, 21, 26, 34, 36, 48, 49, 54, 56, 65, 73, 81, 90, 95, 97, 101], lw := [6, 8, 10], joins := [(60, { vals := [(0, none), (1, none), (5, none), (15, none), (60, none), (7000, none), (7001, none)], locs := [(6, 7000, 0)], lbs := [(7000, 2)] }), (91, { vals := [(5, none), (12, none), (7000, none), (7001, none)], locs := [(6, 7000, 0)], lbs := [(7000, 2)] })], ords := [(11, [0, 1, 3, 4, 5, 6, 7, 9, 10, 11, 12, 2, 8, 13, 14, 15, 16, 17])] }
def ann125 : Ann := { nl := [6, 8, 12] }
def ann126 : Ann := { nl := [18, 26], loops := [(0, { vals := [(0, none), (3, none)] })] }
def ann127 : Ann := { nl := [3, 7] }
def ann128 : Ann := { nl := [17], loops := [(0, { vals := [(0, none), (3, none)] })] }
def ann129 : Ann := { nl := [13, 21, 33, 36], loops := [(0, { vals := [(1, none), (2, none), (3, none), (7, none), (8, none)] })] }
def ann130 : Ann := { nl := [15, 27, 31], loops := [(0, { vals := [(1, none), (2, none), (3, none), (7, none), (8, none)] })] }
def ann131 : Ann := {  }
def ann132 : Ann := { nl := [4] }
def ann133 : Ann := { kinds := [(5, .S)], hb := [3, 8], no := [24], nl := [7, 10, 15, 19, 21], lw := [2, 3, 5, 26], loops := [(0, { vals := [(10, none), (11, none), (12, none), (3000, none), (3001, none), (4000, none), (4001, some 3)], locs := [(2, 3000, 0), (3, 4000, 0)], lbs := [(3000, 2), (4000, 2)] })], nils := [(3, [1])] }
def ann134 : Ann := { iso := false, hl := [15], nl := [11, 15], joins := [(15, { vals := [(0, none), (5, none), (6, none), (7, none), (8, none)] })], loops := [(0, { vals := [(0, none), (6, none), (7, none), (8, none)] })] }
def ann135 : Ann := { iso := false, no := [3] }
def ann136 : Ann := { iso := false, no := [7, 14, 19, 24], nl := [5, 11] }
def ann137 : Ann := { iso := false, no := [17, 25], nl := [9, 20, 28] }
def ann138 : Ann := { iso := false, no := [9, 14, 21, 31, 47, 51], nl := [7, 13, 18, 25, 28, 38, 40, 55], joins := [(7, { vals := [(0, none), (3, none)] }), (29, { vals := [(0, none), (3, none)] })], loops := [(0, { vals := [(0, none), (3, none), (33, none), (34, none), (35, none)] })] }
def ann139 : Ann := { iso := false, kinds := [(5, .S)], no := [16, 21], nl := [12, 20, 25], lw := [5], joins := [(14, { vals := [(0, none), (5, none), (6, none), (7, none), (8, none)] })], loops := [(0, { vals := [(0, none), (6, none), (7, none), (8, none)] })] }
def ann140 : Ann := { iso := false, kinds := [(5, .S)], no := [16], nl := [12, 19], lw := [5], joins := [(14, { vals := [(0, none), (5, none), (6, none), (7, none), (8, none)] })], loops := [(0, { vals := [(0, none), (6, none), (7, none), (8, none)] })] }
def ann141 : Ann := { iso := false }
def ann142 : Ann := { nl := [6, 8, 12, 14] }
def ann143 : Ann := { nl := [10, 16, 20, 27, 33, 40, 46, 50], loops := [(0, { vals := [(1, none), (2, none), (5, none)] })] }
def ann144 : Ann := { nl := [4, 8, 13, 18, 23, 28] }
def ann145 : Ann := { nl := [6, 8, 11, 13, 16, 18, 21, 23, 26, 28] }
def ann146 : Ann := {  }
def ann148 : Ann := {  }
def ann149 : Ann := { nl := [3] }
def ann150 : Ann := { nl := [11], loops := [(0, { vals := [(3, none), (6, none), (7, none), (8, none)] })] }
def ann151 : Ann := {  }
def ann154 : Ann := {  }
def ann155 : Ann := { no := [8] }
def ann156 : Ann := {  }
def ann157 : Ann := { iso := false, hl := [14, 18, 57], nl := [14, 18, 57], ords := [(7, [0, 1, 2, 3, 5, 6, 7, 4, 8, 9, 10, 11, 12, 13, 14])] }
def ann158 : Ann := { iso := false }
def ann159 : Ann := { iso := false, hl := [10], nl := [10] }
def ann160 : Ann := { iso := false }
def ann161 : Ann := { iso := false }
def ann162 : Ann := { iso := false, hl := [8, 16, 26], nl := [8, 16, 26] }
def ann163 : Ann := { iso := false, ha := [7] }
def ann164 : Ann := { loops := [(0, { vals := [(0, none), (3, none)] })] }
def ann165 : Ann := { nl := [15], loops := [(0, { vals := [(0, none), (1, none), (5, none)] })] }
def ann166 : Ann := { no := [1] }
def ann169 : Ann := {  }
def ann170 : Ann := { nl := [13, 23], loops := [(0, { vals := [(0, none), (3, none)] })] }
def ann171 : Ann := { nl := [16], loops := [(0, { vals := [(0, none), (1, none), (5, none)] })] }
def ann172 : Ann := { nl := [13], loops := [(0, { vals := [(0, none), (3, none)] })] }
def ann173 : Ann := {  }
def ann174 : Ann := { nl := [3] }
def ann175 : Ann := { nl := [3] }
def ann176 : Ann := { kinds := [(6, .S)], nl := [10, 12, 16, 23, 25, 29, 35, 37, 41], lw := [6], loops := [(0, { vals := [(2, none), (3, none), (5, none)] })] }
def ann177 : Ann := { nl := [6, 8, 12, 14] }
def ann178 : Ann := { kinds := [(5, .S), (8, .S)], nl := [13, 18, 22, 31, 37, 39, 44, 46, 51, 53, 58, 61, 66, 71, 76, 77], lw := [5, 8], loops := [(0, { vals := [(1, none), (71, none), (72, none), (73, none)] })] }
def ann179 : Ann := { nl := [3] }
def ann180 : Ann := { kinds := [(10, .S), (15, .H)], hl := [31], hb := [14], nl := [19, 31, 34, 35], lw := [10] }
def ann182 : Ann := { iso := false, kinds := [(8, .S), (10, .S)], hl := [17], nl := [17, 19, 27, 33, 35, 45, 46, 50], lw := [6, 8, 10], joins := [(28, { vals := [(8, none), (7000, none), (7001, none)], locs := [(6, 7000, 0)], lbs := [(7000, 2)] })], ords := [(1, [0, 1, 2, 3, 4, 5, 6, 11, 7, 8, 9, 10, 12, 13])] }
def ann183 : Ann := { iso := false, kinds := [(8, .S), (13, .S)], hl := [63], nl := [16, 24, 27, 35, 49, 50, 52, 55, 63, 65, 70], lw := [6, 8, 13], loops := [(0, { vals := [(0, none), (8, none), (43, none), (44, none), (45, none), (7000, none), (7001, none)], locs := [(6, 7000, 0)], lbs := [(7000, 2)] })] }
def ann184 : Ann := { iso := false, kinds := [(10, .S), (11, .S)], no := [31], nl := [18, 22, 30], lw := [10, 11], loops := [(0, { vals := [(0, none), (1, none), (8, some 2), (13, none), (14, none), (15, none)] })] }
def ann185 : Ann := { kinds := [(10, .S)], hb := [7, 12], no := [85], nl := [14, 49, 51, 52, 54, 60, 63, 69, 75, 79, 82, 83, 92, 95, 97], lw := [4, 7, 10, 24, 29, 38, 45, 68, 87], joins := [(15, { vals := [(2, none), (3, none), (6, none), (8, none), (14, none), (15, none), (5000, none), (5001, none), (8000, none), (8001, some 3)], locs := [(4, 5000, 0), (7, 8000, 0)], lbs := [(5000, 2), (8000, 2)] }), (39, { vals := [(2, none), (3, none), (6, none), (8, none), (14, none), (39, none), (5000, none), (5001, none), (8000, none), (8001, some 3)], locs := [(4, 5000, 0), (7, 8000, 0)], lbs := [(5000, 2), (8000, 2)] }), (1000000, { vals := [(8, none), (5000, none), (5001, none), (8000, none), (8001, some 3)], locs := [(4, 5000, 0), (7, 8000, 0)], lbs := [(5000, 2), (8000, 2)] })], loops := [(1, { vals := [(2, none), (8, none), (69, none), (70, none), (71, none), (5000, none), (5001, none), (8000, none), (8001, some 3)], locs := [(4, 5000, 0), (7, 8000, 0)], lbs := [(5000, 2), (8000, 2)] })], nils := [(7, [1])] }
def ann186 : Ann := { kinds := [(4, .S)], nl := [8, 10, 17, 19], lw := [4] }
def ann187 : Ann := { nl := [9, 21, 24], loops := [(0, { vals := [(1, none), (2, none), (5, none), (6, none)] })] }
def ann188 : Ann := { nl := [7, 17, 20, 25, 31, 34, 38, 43, 49], loops := [(0, { vals := [(1, none), (3, none)] }), (2, { vals := [(1, none), (4, none)] })] }
def ann189 : Ann := { nl := [15], loops := [(0, { vals := [(0, none), (1, none), (7, none), (8, none)] })] }
def ann190 : Ann := { iso := false, hl := [11], ha := [14], hb := [14], no := [13], nl := [11] }
def ann191 : Ann := { kinds := [(5, .S)], nl := [11, 13, 15, 18, 20, 23], lw := [5], joins := [(24, { vals := [(23, none), (24, none)] })], loops := [(0, { vals := [(1, none), (6, none), (7, none), (8, none)] })] }
def ann192 : Ann := { iso := false, no := [27, 48, 57, 64, 71, 78, 89, 108, 115, 124, 134, 143], nl := [20, 22, 31, 33, 38, 40, 46, 54, 63, 70, 77, 82, 84, 93, 95, 101, 103, 107, 114, 119, 121, 128, 130, 140, 147, 150], joins := [(15, { vals := [(0, none), (2, none), (3, none), (5, none), (8, none)] })], loops := [(1, { vals := [(0, none), (5, none), (134, none), (135, none), (136, none)] })] }
def ann194 : Ann := {  }
def ann195 : Ann := { iso := false, hl := [6], nl := [6] }
def ann196 : Ann := { nl := [13, 24, 28], loops := [(0, { vals := [(0, none), (3, none)] })] }
def ann197 : Ann := { no := [17], nl := [16], loops := [(0, { vals := [(0, none), (3, some 1), (4, none)] })] }
def ann198 : Ann := {  }
def ann199 : Ann := {  }
def ann200 : Ann := { loops := [(0, { vals := [(0, none), (1, none), (5, none)] })] }
def ann201 : Ann := {  }
def ann202 : Ann := {  }
def ann204 : Ann := { nl := [15], loops := [(0, { vals := [(0, none), (1, none), (7, none), (8, none)] })] }
def ann205 : Ann := {  }
def ann208 : Ann := {  }
def ann210 : Ann := {  }
def ann211 : Ann := { iso := false, hl := [12, 23, 35, 43, 54, 68], nl := [12, 23, 35, 43, 54, 68], loops := [(0, { vals := [(0, none), (1, none), (5, none)] })] }
def ann212 : Ann := {  }
def ann213 : Ann := {  }
def ann224 : Ann := { nl := [9, 15, 21, 24], loops := [(0, { vals := [(1, none), (2, none), (5, none)] })] }
def ann225 : Ann := { nl := [18, 25], lw := [4], loops := [(0, { vals := [(0, none), (1, none), (6, none), (5000, none), (5001, none)], locs := [(4, 5000, 0)], lbs := [(5000, 2)] })] }
def ann226 : Ann := { nl := [6, 8, 11, 16, 23, 30, 36, 45, 54, 58, 63, 65], lw := [2, 4, 17, 24, 31, 37, 46, 55, 66, 67], joins := [(12, { vals := [(1, none), (11, none), (12, none), (3000, none), (3001, none), (3002, none), (3003, none), (3004, none), (3005, none), (5000, none), (5001, none), (5002, none), (5003, none), (5004, none), (5005, none)], locs := [(2, 3000, 0), (4, 5000, 0)], lbs := [(3000, 6), (5000, 6)] }), (19, { vals := [(1, none), (11, none), (19, none), (3000, none), (3001, none), (3002, none), (3003, none), (3004, none), (3005, none), (5000, none), (5001, none), (5002, none), (5003, none), (5004, none), (5005, none)], locs := [(2, 3000, 0), (4, 5000, 0)], lbs := [(3000, 6), (5000, 6)] }), (26, { vals := [(1, none), (11, none), (26, none), (3000, none), (3001, none), (3002, none), (3003, none), (3004, none), (3005, none), (5000, none), (5001, none), (5002, none), (5003, none), (5004, none), (5005, none)], locs := [(2, 3000, 0), (4, 5000, 0)], lbs := [(3000, 6), (5000, 6)] })] }
def ann227 : Ann := { nl := [6, 10, 14, 20, 24, 30, 34, 39, 44, 54, 59, 63, 67, 73, 80, 86, 96, 100, 106], joins := [(47, { vals := [(1, none), (6, none), (47, none)] })], loops := [(1, { vals := [(1, none), (80, none), (81, none), (82, none)] })] }
def ann229 : Ann := { iso := false, kinds := [(7, .S), (10, .S), (11, .S)], hl := [21, 31, 60, 81], hb := [8, 39], no := [51], nl := [15, 21, 31, 34, 36, 38, 41, 46, 50, 60, 62, 67, 81, 83, 89, 92], lw := [4, 7, 8, 10, 11, 53], loops := [(0, { vals := [(41, none), (42, none), (43, none), (5000, none), (5001, none), (5002, none), (5003, none), (5004, none), (9000, none), (9001, some 2), (9002, none), (9003, none), (9004, none)], locs := [(4, 5000, 0), (8, 9000, 0)], lbs := [(5000, 5), (9000, 5)] })], nils := [(8, [1])] }
def ann230 : Ann := { nl := [4] }
def ann231 : Ann := { nl := [5, 6] }
def ann232 : Ann := { kinds := [(8, .S), (9, .S), (11, .S)], hb := [6, 21], no := [52], nl := [14, 16, 20, 23, 28, 31, 33, 40, 41, 49, 50], lw := [4, 6, 8, 9, 11, 54], loops := [(0, { vals := [(3, none), (23, none), (24, none), (25, none), (5000, none), (5001, none), (7000, none), (7001, some 3)], locs := [(4, 5000, 0), (6, 7000, 0)], lbs := [(5000, 2), (7000, 2)] })], nils := [(6, [1])] }
def ann233 : Ann := { no := [8] }
def ann234 : Ann := {  }
def ann235 : Ann := { iso := false, no := [12, 25, 29, 40, 48, 66, 72, 75, 82], nl := [9, 15, 21, 33, 36, 43, 47, 51, 58, 62, 71, 79], joins := [(23, { vals := [(0, none), (3, none), (4, none), (5, none), (15, none), (16, none), (17, none)] }), (44, { vals := [(0, none), (3, none)] }), (52, { vals := [(0, none), (3, none)] })], loops := [(0, { vals := [(0, none), (3, none), (15, none), (16, none), (17, none)] }), (2, { vals := [(0, none), (3, none), (53, none), (54, none), (55, none)] })] }
def ann238 : Ann := { nl := [15], loops := [(0, { vals := [(0, none), (1, none), (7, none), (8, none)] })] }
def ann241 : Ann := {  }
def ann244 : Ann := {  }
def ann245 : Ann := { joins := [(14, { vals := [(0, none), (4, none)] }), (45, { vals := [(0, none), (5, none)] })], loops := [(0, { vals := [(0, none), (4, none), (5, none), (6, none)] })] }
def ann251 : Ann := { nl := [5, 8, 11, 19, 24, 32, 38, 46, 52, 60, 65, 73, 78, 86, 94, 99, 109, 114, 122, 127, 131, 137, 145, 149, 154, 159, 171], joins := [(35, { vals := [(1, none), (3, none), (8, none), (35, none)] }), (49, { vals := [(1, none), (3, none), (8, none), (49, none)] }), (163, { vals := [(1, none), (3, none), (163, none)] })] }
def ann253 : Ann := { nl := [15], loops := [(0, { vals := [(0, none), (1, none), (7, none), (8, none)] })] }
def ann254 : Ann := { nl := [5, 7] }
def ann255 : Ann := { nl := [5, 7] }
def ann256 : Ann := {  }
def ann257 : Ann := {  }
def ann272 : Ann := {  }
def ann274 : Ann := { nl := [14, 21, 29, 37] }
noncomputable def tabF : List (Nat × (Func × Ann)) := [
(3, (Tryz.f3, ann3)),
(4, (Tryz.f4, ann4)),
(5, (Tryz.f5, ann5)),
(6, (Tryz.f6, ann6)),
(7, (Tryz.f7, ann7)),
(8, (Tryz.f8, ann8)),
(9, (Tryz.f9, ann9)),
(10, (Tryz.f10, ann10)),
(11, (Tryz.f11, ann11)),
(12, (Tryz.f12, ann12)),
(13, (Tryz.f13, ann13)),
(14, (Tryz.f14, ann14)),
(15, (Tryz.f15, ann15)),
(16, (Tryz.f16, ann16)),
(17, (Tryz.f17, ann17)),
(18, (Tryz.f18, ann18)),
(19, (Tryz.f19, ann19)),
(20, (Tryz.f20, ann20)),
(21, (Tryz.f21, ann21)),
(22, (Tryz.f22, ann22)),
(23, (Tryz.f23, ann23)),
(24, (Tryz.f24, ann24)),
(25, (Tryz.f25, ann25)),
(26, (Tryz.f26, ann26)),
(27, (Tryz.f27, ann27)),
(28, (Tryz.f28, ann28)),
(29, (Tryz.f29, ann29)),
(30, (Tryz.f30, ann30)),
(31, (Tryz.f31, ann31)),
(32, (Tryz.f32, ann32)),
(33, (Tryz.f33, ann33)),
(34, (Tryz.f34, ann34)),
(35, (Tryz.f35, ann35)),
(36, (Tryz.f36, ann36)),
(37, (Tryz.f37, ann37)),
(38, (Tryz.f38, ann38)),
(39, (Tryz.f39, ann39)),
(40, (Tryz.f40, ann40)),
(41, (Tryz.f41, ann41)),
(42, (Tryz.f42, ann42)),
(43, (Tryz.f43, ann43)),
(44, (Tryz.f44, ann44)),
(45, (Tryz.f45, ann45)),
(46, (Tryz.f46, ann46)),
(47, (Tryz.f47, ann47)),
(48, (Tryz.f48, ann48)),
(49, (Tryz.f49, ann49)),
(50, (Tryz.f50, ann50)),
(51, (Tryz.f51, ann51)),
(52, (Tryz.f52, ann52)),
(53, (Tryz.f53, ann53)),
(54, (Tryz.f54, ann54)),
(55, (Tryz.f55, ann55)),
(56, (Tryz.f56, ann56)),
(57, (Tryz.f57, ann57)),
(58, (Tryz.f58, ann58)),
(59, (Tryz.f59, ann59)),
(60, (Tryz.f60, ann60)),
(61, (Tryz.f61, ann61)),
(62, (Tryz.f62, ann62)),
(63, (Tryz.f63, ann63)),
(64, (Tryz.f64, ann64)),
(65, (Tryz.f65, ann65)),
(66, (Tryz.f66, ann66)),
(67, (Tryz.f67, ann67)),
(68, (Tryz.f68, ann68)),
(69, (Tryz.f69, ann69)),
(70, (Tryz.f70, ann70)),
(71, (Tryz.f71, ann71)),
(72, (Tryz.f72, ann72)),
(73, (Tryz.f73, ann73)),
(74, (Tryz.f74, ann74)),
(75, (Tryz.f75, ann75)),
(76, (Tryz.f76, ann76)),
(77, (Tryz.f77, ann77)),
(78, (Tryz.f78, ann78)),
(79, (Tryz.f79, ann79)),
(80, (Tryz.f80, ann80)),
(81, (Tryz.f81, ann81)),
(82, (Tryz.f82, ann82)),
(83, (Tryz.f83, ann83)),
(84, (Tryz.f84, ann84)),
(85, (Tryz.f85, ann85)),
(86, (Tryz.f86, ann86)),
(88, (Tryz.f88, ann88)),
(89, (Tryz.f89, ann89)),
(90, (Tryz.f90, ann90)),
(91, (Tryz.f91, ann91)),
(92, (Tryz.f92, ann92)),
(93, (Tryz.f93, ann93)),
(94, (Tryz.f94, ann94)),
(95, (Tryz.f95, ann95)),
(96, (Tryz.f96, ann96)),
(97, (Tryz.f97, ann97)),
(98, (Tryz.f98, ann98)),
(99, (Tryz.f99, ann99)),
(100, (Tryz.f100, ann100)),
(101, (Tryz.f101, ann101)),
(102, (Tryz.f102, ann102)),
(104, (Tryz.f104, ann104)),
(105, (Tryz.f105, ann105)),
(106, (Tryz.f106, ann106)),
(108, (Tryz.f108, ann108)),
(109, (Tryz.f109, ann109)),
(110, (Tryz.f110, ann110)),
(111, (Tryz.f111, ann111)),
(112, (Tryz.f112, ann112)),
(113, (Tryz.f113, ann113)),
(114, (Tryz.f114, ann114)),
(115, (Tryz.f115, ann115)),
(116, (Tryz.f116, ann116)),
(117, (Tryz.f117, ann117)),
(118, (Tryz.f118, ann118)),
(119, (Tryz.f119, ann119)),
(120, (Tryz.f120, ann120)),
(121, (Tryz.f121, ann121)),
(122, (Tryz.f122, ann122)),
(123, (Tryz.f123, ann123)),
(124, (Tryz.f124, ann124)),
(125, (Tryz.f125, ann125)),
(126, (Tryz.f126, ann126)),
(127, (Tryz.f127, ann127)),
(128, (Tryz.f128, ann128)),
(129, (Tryz.f129, ann129)),
(130, (Tryz.f130, ann130)),
(131, (Tryz.f131, ann131)),
(132, (Tryz.f132, ann132)),
(133, (Tryz.f133, ann133)),
(134, (Tryz.f134, ann134)),
(135, (Tryz.f135, ann135)),
(136, (Tryz.f136, ann136)),
(137, (Tryz.f137, ann137)),
(138, (Tryz.f138, ann138)),
(139, (Tryz.f139, ann139)),
(140, (Tryz.f140, ann140)),
(141, (Tryz.f141, ann141)),
(142, (Tryz.f142, ann142)),
(143, (Tryz.f143, ann143)),
(144, (Tryz.f144, ann144)),
(145, (Tryz.f145, ann145)),
(146, (Tryz.f146, ann146)),
(148, (Tryz.f148, ann148)),
(149, (Tryz.f149, ann149)),
(150, (Tryz.f150, ann150)),
(151, (Tryz.f151, ann151)),
(154, (Tryz.f154, ann154)),
(155, (Tryz.f155, ann155)),
(156, (Tryz.f156, ann156)),
(157, (Tryz.f157, ann157)),
(158, (Tryz.f158, ann158)),
(159, (Tryz.f159, ann159)),
(160, (Tryz.f160, ann160)),
(161, (Tryz.f161, ann161)),
(162, (Tryz.f162, ann162)),
(164, (Tryz.f164, ann164)),
(165, (Tryz.f165, ann165)),
(166, (Tryz.f166, ann166)),
(169, (Tryz.f169, ann169)),
(170, (Tryz.f170, ann170)),
(171, (Tryz.f171, ann171)),
(172, (Tryz.f172, ann172)),
(173, (Tryz.f173, ann173)),
(174, (Tryz.f174, ann174)),
(175, (Tryz.f175, ann175)),
(176, (Tryz.f176, ann176)),
(177, (Tryz.f177, ann177)),
(178, (Tryz.f178, ann178)),
(179, (Tryz.f179, ann179)),
(180, (Tryz.f180, ann180)),
(182, (Tryz.f182, ann182)),
(183, (Tryz.f183, ann183)),
(184, (Tryz.f184, ann184)),
(185, (Tryz.f185, ann185)),
(186, (Tryz.f186, ann186)),
(187, (Tryz.f187, ann187)),
(188, (Tryz.f188, ann188)),
(189, (Tryz.f189, ann189)),
(190, (Tryz.f190, ann190)),
(191, (Tryz.f191, ann191)),
(192, (Tryz.f192, ann192)),
(194, (Tryz.f194, ann194)),
(195, (Tryz.f195, ann195)),
(196, (Tryz.f196, ann196)),
(197, (Tryz.f197, ann197)),
(198, (Tryz.f198, ann198)),
(199, (Tryz.f199, ann199)),
(200, (Tryz.f200, ann200)),
(201, (Tryz.f201, ann201)),
(202, (Tryz.f202, ann202)),
(204, (Tryz.f204, ann204)),
(205, (Tryz.f205, ann205)),
(208, (Tryz.f208, ann208)),
(210, (Tryz.f210, ann210)),
(211, (Tryz.f211, ann211)),
(212, (Tryz.f212, ann212)),
(213, (Tryz.f213, ann213)),
(224, (Tryz.f224, ann224)),
(225, (Tryz.f225, ann225)),
(226, (Tryz.f226, ann226)),
(227, (Tryz.f227, ann227)),
(229, (Tryz.f229, ann229)),
(230, (Tryz.f230, ann230)),
(231, (Tryz.f231, ann231)),
(232, (Tryz.f232, ann232)),
(233, (Tryz.f233, ann233)),
(234, (Tryz.f234, ann234)),
(235, (Tryz.f235, ann235)),
(238, (Tryz.f238, ann238)),
(241, (Tryz.f241, ann241)),
(244, (Tryz.f244, ann244)),
(245, (Tryz.f245, ann245)),
(251, (Tryz.f251, ann251)),
(253, (Tryz.f253, ann253)),
(254, (Tryz.f254, ann254)),
(255, (Tryz.f255, ann255)),
(256, (Tryz.f256, ann256)),
(257, (Tryz.f257, ann257)),
(272, (Tryz.f272, ann272)),
(274, (Tryz.f274, ann274))]
def findF : List (Nat × (Func × Ann)) → Nat → Option (Func × Ann)
  | [], _ => none
  | (k, x) :: r, t => bif Nat.beq k t then some x else findF r t
def own : FuncId → Option Nat := fun f =>  none
noncomputable def other : FuncId → Option ((FuncId → List AV → M AV) → List AV → M AV) := fun f =>
  bif Nat.beq f 87 then some (builderStringE 5) else bif Nat.beq f 103 then some (cloneH T 54) else bif Nat.beq f 107 then some (failE) else bif Nat.beq f 147 then some (containsE) else bif Nat.beq f 152 then some (copyCheckE [(104, 2), (149, 3)]) else bif Nat.beq f 153 then some (itoaE) else bif Nat.beq f 163 then some (cloneH T 25) else bif Nat.beq f 181 then some (lookupE) else bif Nat.beq f 193 then some (fieldsE) else bif Nat.beq f 209 then some (failE) else none
noncomputable def pg : Pg := { T := T, funcs := findF tabF, own := own, other := other, nw := fun f => bif Nat.beq f 103 then true else bif Nat.beq f 163 then true else false }
theorem hOther : OtherLim pg := by
  intro f E hE call calls hc
  have h0 : other f = some E := hE
  unfold other at h0
  rcases other_bif h0 with rfl | h0
  · exact LimF.const _
  rcases other_bif h0 with rfl | h0
  · exact cloneH_lim _ _ _ _
  rcases other_bif h0 with rfl | h0
  · exact LimF.const _
  rcases other_bif h0 with rfl | h0
  · exact LimF.const _
  rcases other_bif h0 with rfl | h0
  · exact LimF.const _
  rcases other_bif h0 with rfl | h0
  · exact LimF.const _
  rcases other_bif h0 with rfl | h0
  · exact cloneH_lim _ _ _ _
  rcases other_bif h0 with rfl | h0
  · exact LimF.const _
  rcases other_bif h0 with rfl | h0
  · exact LimF.const _
  rcases other_bif h0 with rfl | h0
  · exact LimF.const _
  cases h0
end Go.Proofs.YteemeakjlfnapaaGreatDoor
