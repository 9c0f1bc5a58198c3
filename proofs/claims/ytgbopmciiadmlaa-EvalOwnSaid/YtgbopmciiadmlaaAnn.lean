/- Annotations of the functions, the table of types, the program of the abstract evaluator: written by a program. No condition. -/
import Derived.Test.YtgbopmciiadmlaaLc
import Derived.Test.YtgbopmciiadmlaaProg
namespace Go.Proofs.Ytgbopmciiadmlaa
open Go Go.Av
noncomputable def tab : List (Nat × TI) := [
(0, (TI.mk Bool.false 1 0 TK.other [] [AV.any] Bool.false)),
(1, (TI.mk Bool.false 1 8 TK.func [] [AV.nilf] Bool.false)),
(2, (TI.mk Bool.false 1 8 (TK.int IntKind.i64) [] [AV.int IntKind.i64 0] Bool.false)),
(3, (TI.mk Bool.false 1 8 (TK.int IntKind.i64) [] [AV.int IntKind.i64 0] Bool.false)),
(4, (TI.mk Bool.false 1 1 TK.bool [] [AV.bool Bool.false] Bool.false)),
(5, (TI.mk Bool.false 1 1 (TK.int IntKind.u8) [] [AV.int IntKind.u8 0] Bool.false)),
(6, (TI.mk Bool.false 1 1 (TK.int IntKind.u8) [] [AV.int IntKind.u8 0] Bool.false)),
(7, (TI.mk Bool.true 4 24 TK.struct [(0, ((2, Bool.true))), (1, ((3, Bool.true))), (2, ((4, Bool.true))), (3, ((6, Bool.true)))] [AV.int IntKind.i64 0, AV.int IntKind.i64 0, AV.bool Bool.false, AV.int IntKind.u8 0] Bool.true)),
(8, (TI.mk Bool.true 4 24 TK.struct [(0, ((2, Bool.true))), (1, ((3, Bool.true))), (2, ((4, Bool.true))), (3, ((6, Bool.true)))] [AV.int IntKind.i64 0, AV.int IntKind.i64 0, AV.bool Bool.false, AV.int IntKind.u8 0] Bool.true)),
(9, (TI.mk Bool.false 1 16 TK.str [] [AV.str []] Bool.false)),
(10, (TI.mk Bool.false 1 16 TK.str [] [AV.str []] Bool.false)),
(11, (TI.mk Bool.false 1 16 TK.str [] [AV.str []] Bool.false)),
(12, (TI.mk Bool.false 1 8 (TK.int IntKind.u64) [] [AV.int IntKind.u64 0] Bool.false)),
(13, (TI.mk Bool.true 2 24 TK.struct [(0, ((9, Bool.true))), (1, ((12, Bool.true)))] [AV.str [], AV.int IntKind.u64 0] Bool.false)),
(14, (TI.mk Bool.true 2 24 TK.struct [(0, ((9, Bool.true))), (1, ((12, Bool.true)))] [AV.str [], AV.int IntKind.u64 0] Bool.false)),
(15, (TI.mk Bool.false 1 8 TK.ptr [] [AV.nilp] Bool.false)),
(16, (TI.mk Bool.false 1 8 TK.ptr [] [AV.nilp] Bool.false)),
(17, (TI.mk Bool.false 1 8 TK.ptr [] [AV.nilp] Bool.false)),
(18, (TI.mk Bool.true 1 8 TK.struct [(0, ((17, Bool.true)))] [AV.nilp] Bool.false)),
(19, (TI.mk Bool.true 1 8 TK.struct [(0, ((17, Bool.true)))] [AV.nilp] Bool.false)),
(20, (TI.mk Bool.false 1 16 TK.iface [] [AV.nili] Bool.false)),
(21, (TI.mk Bool.false 1 4 (TK.int IntKind.i32) [] [AV.int IntKind.i32 0] Bool.false)),
(22, (TI.mk Bool.false 1 24 (TK.slice 63) [] [AV.sl []] Bool.false)),
(23, (TI.mk Bool.false 1 24 (TK.slice 39) [] [AV.sl []] Bool.false)),
(24, (TI.mk Bool.false 1 24 (TK.slice 3) [] [AV.sl []] Bool.false)),
(25, (TI.mk Bool.false 1 24 (TK.slice 9) [] [AV.sl []] Bool.false)),
(26, (TI.mk Bool.false 1 24 (TK.slice 28) [] [AV.sl []] Bool.false)),
(27, (TI.mk Bool.true 6 96 TK.struct [(0, ((3, Bool.true))), (1, ((3, Bool.true))), (2, ((9, Bool.true))), (3, ((9, Bool.true))), (4, ((25, Bool.true))), (5, ((26, Bool.true)))] [AV.int IntKind.i64 0, AV.int IntKind.i64 0, AV.str [], AV.str [], AV.sl [], AV.sl []] Bool.true)),
(28, (TI.mk Bool.true 6 96 TK.struct [(0, ((3, Bool.true))), (1, ((3, Bool.true))), (2, ((9, Bool.true))), (3, ((9, Bool.true))), (4, ((25, Bool.true))), (5, ((26, Bool.true)))] [AV.int IntKind.i64 0, AV.int IntKind.i64 0, AV.str [], AV.str [], AV.sl [], AV.sl []] Bool.true)),
(29, (TI.mk Bool.false 1 8 TK.func [] [AV.nilf] Bool.false)),
(30, (TI.mk Bool.false 1 8 TK.func [] [AV.nilf] Bool.false)),
(31, (TI.mk Bool.false 1 8 TK.func [] [AV.nilf] Bool.false)),
(32, (TI.mk Bool.false 1 24 (TK.slice 47) [] [AV.sl []] Bool.false)),
(33, (TI.mk Bool.false 1 8 (TK.int IntKind.i64) [] [AV.int IntKind.i64 0] Bool.false)),
(34, (TI.mk Bool.false 1 0 TK.other [] [AV.any] Bool.false)),
(35, (TI.mk Bool.false 1 8 TK.func [] [AV.nilf] Bool.false)),
(36, (TI.mk Bool.false 1 8 TK.func [] [AV.nilf] Bool.false)),
(37, (TI.mk Bool.false 1 8 TK.func [] [AV.nilf] Bool.false)),
(38, (TI.mk Bool.true 4 64 TK.struct [(0, ((3, Bool.true))), (1, ((3, Bool.true))), (2, ((25, Bool.true))), (3, ((23, Bool.true)))] [AV.int IntKind.i64 0, AV.int IntKind.i64 0, AV.sl [], AV.sl []] Bool.true)),
(39, (TI.mk Bool.true 4 64 TK.struct [(0, ((3, Bool.true))), (1, ((3, Bool.true))), (2, ((25, Bool.true))), (3, ((23, Bool.true)))] [AV.int IntKind.i64 0, AV.int IntKind.i64 0, AV.sl [], AV.sl []] Bool.true)),
(40, (TI.mk Bool.false 1 24 (TK.slice 55) [] [AV.sl []] Bool.false)),
(41, (TI.mk Bool.false 1 24 (TK.slice 69) [] [AV.sl []] Bool.false)),
(42, (TI.mk Bool.true 8 144 TK.struct [(0, ((33, Bool.true))), (1, ((39, Bool.true))), (5, ((40, Bool.true))), (6, ((41, Bool.true))), (7, ((32, Bool.true)))] [AV.int IntKind.i64 0, AV.int IntKind.i64 0, AV.int IntKind.i64 0, AV.sl [], AV.sl [], AV.sl [], AV.sl [], AV.sl []] Bool.true)),
(43, (TI.mk Bool.true 8 144 TK.struct [(0, ((33, Bool.true))), (1, ((39, Bool.true))), (5, ((40, Bool.true))), (6, ((41, Bool.true))), (7, ((32, Bool.true)))] [AV.int IntKind.i64 0, AV.int IntKind.i64 0, AV.int IntKind.i64 0, AV.sl [], AV.sl [], AV.sl [], AV.sl [], AV.sl []] Bool.true)),
(44, (TI.mk Bool.false 1 8 TK.func [] [AV.nilf] Bool.false)),
(45, (TI.mk Bool.false 1 8 TK.func [] [AV.nilf] Bool.false)),
(46, (TI.mk Bool.true 2 40 TK.struct [(0, ((9, Bool.true))), (1, ((23, Bool.true)))] [AV.str [], AV.sl []] Bool.true)),
(47, (TI.mk Bool.true 2 40 TK.struct [(0, ((9, Bool.true))), (1, ((23, Bool.true)))] [AV.str [], AV.sl []] Bool.true)),
(48, (TI.mk Bool.false 1 8 TK.func [] [AV.nilf] Bool.false)),
(49, (TI.mk Bool.false 1 0 TK.other [] [AV.any] Bool.false)),
(50, (TI.mk Bool.false 1 8 TK.func [] [AV.nilf] Bool.false)),
(51, (TI.mk Bool.false 1 8 TK.func [] [AV.nilf] Bool.false)),
(52, (TI.mk Bool.false 1 8 TK.func [] [AV.nilf] Bool.false)),
(53, (TI.mk Bool.false 1 8 TK.func [] [AV.nilf] Bool.false)),
(54, (TI.mk Bool.true 3 24 TK.struct [(0, ((3, Bool.true))), (1, ((3, Bool.true))), (2, ((3, Bool.true)))] [AV.int IntKind.i64 0, AV.int IntKind.i64 0, AV.int IntKind.i64 0] Bool.true)),
(55, (TI.mk Bool.true 3 24 TK.struct [(0, ((3, Bool.true))), (1, ((3, Bool.true))), (2, ((3, Bool.true)))] [AV.int IntKind.i64 0, AV.int IntKind.i64 0, AV.int IntKind.i64 0] Bool.true)),
(56, (TI.mk Bool.false 1 8 TK.func [] [AV.nilf] Bool.false)),
(57, (TI.mk Bool.false 1 8 TK.func [] [AV.nilf] Bool.false)),
(58, (TI.mk Bool.false 1 24 (TK.slice 104) [] [AV.sl []] Bool.false)),
(59, (TI.mk Bool.false 1 24 (TK.slice 67) [] [AV.sl []] Bool.false)),
(60, (TI.mk Bool.true 3 72 TK.struct [(0, ((58, Bool.true))), (1, ((26, Bool.true))), (2, ((26, Bool.true)))] [AV.sl [], AV.sl [], AV.sl []] Bool.true)),
(61, (TI.mk Bool.true 3 72 TK.struct [(0, ((58, Bool.true))), (1, ((26, Bool.true))), (2, ((26, Bool.true)))] [AV.sl [], AV.sl [], AV.sl []] Bool.true)),
(62, (TI.mk Bool.true 9 192 TK.struct [(0, ((9, Bool.true))), (1, ((25, Bool.true))), (2, ((58, Bool.true))), (3, ((26, Bool.true))), (4, ((59, Bool.true))), (5, ((4, Bool.true))), (6, ((61, Bool.true)))] [AV.str [], AV.sl [], AV.sl [], AV.sl [], AV.sl [], AV.bool Bool.false, AV.sl [], AV.sl [], AV.sl []] Bool.true)),
(63, (TI.mk Bool.true 9 192 TK.struct [(0, ((9, Bool.true))), (1, ((25, Bool.true))), (2, ((58, Bool.true))), (3, ((26, Bool.true))), (4, ((59, Bool.true))), (5, ((4, Bool.true))), (6, ((61, Bool.true)))] [AV.str [], AV.sl [], AV.sl [], AV.sl [], AV.sl [], AV.bool Bool.false, AV.sl [], AV.sl [], AV.sl []] Bool.true)),
(64, (TI.mk Bool.true 2 32 TK.struct [(0, ((3, Bool.true))), (1, ((58, Bool.true)))] [AV.int IntKind.i64 0, AV.sl []] Bool.true)),
(65, (TI.mk Bool.true 2 32 TK.struct [(0, ((3, Bool.true))), (1, ((58, Bool.true)))] [AV.int IntKind.i64 0, AV.sl []] Bool.true)),
(66, (TI.mk Bool.true 12 184 TK.struct [(0, ((9, Bool.true))), (1, ((4, Bool.true))), (2, ((58, Bool.true))), (3, ((65, Bool.true))), (5, ((3, Bool.true))), (6, ((28, Bool.true)))] [AV.str [], AV.bool Bool.false, AV.sl [], AV.int IntKind.i64 0, AV.sl [], AV.int IntKind.i64 0, AV.int IntKind.i64 0, AV.int IntKind.i64 0, AV.str [], AV.str [], AV.sl [], AV.sl []] Bool.true)),
(67, (TI.mk Bool.true 12 184 TK.struct [(0, ((9, Bool.true))), (1, ((4, Bool.true))), (2, ((58, Bool.true))), (3, ((65, Bool.true))), (5, ((3, Bool.true))), (6, ((28, Bool.true)))] [AV.str [], AV.bool Bool.false, AV.sl [], AV.int IntKind.i64 0, AV.sl [], AV.int IntKind.i64 0, AV.int IntKind.i64 0, AV.int IntKind.i64 0, AV.str [], AV.str [], AV.sl [], AV.sl []] Bool.true)),
(68, (TI.mk Bool.true 3 56 TK.struct [(0, ((9, Bool.true))), (1, ((9, Bool.true))), (2, ((23, Bool.true)))] [AV.str [], AV.str [], AV.sl []] Bool.true)),
(69, (TI.mk Bool.true 3 56 TK.struct [(0, ((9, Bool.true))), (1, ((9, Bool.true))), (2, ((23, Bool.true)))] [AV.str [], AV.str [], AV.sl []] Bool.true)),
(70, (TI.mk Bool.false 1 8 TK.func [] [AV.nilf] Bool.false)),
(71, (TI.mk Bool.false 1 8 TK.func [] [AV.nilf] Bool.false)),
(72, (TI.mk Bool.false 1 8 TK.func [] [AV.nilf] Bool.false)),
(73, (TI.mk Bool.false 1 8 TK.func [] [AV.nilf] Bool.false)),
(74, (TI.mk Bool.false 1 8 TK.func [] [AV.nilf] Bool.false)),
(75, (TI.mk Bool.false 1 8 TK.func [] [AV.nilf] Bool.false)),
(76, (TI.mk Bool.false 1 8 TK.func [] [AV.nilf] Bool.false)),
(77, (TI.mk Bool.false 1 8 TK.func [] [AV.nilf] Bool.false)),
(78, (TI.mk Bool.false 1 8 TK.func [] [AV.nilf] Bool.false)),
(79, (TI.mk Bool.false 1 8 TK.ptr [] [AV.nilp] Bool.false)),
(80, (TI.mk Bool.true 12 208 TK.struct [(0, ((22, Bool.true))), (1, ((24, Bool.true))), (2, ((3, Bool.true))), (3, ((3, Bool.true))), (4, ((43, Bool.true)))] [AV.sl [], AV.sl [], AV.int IntKind.i64 0, AV.int IntKind.i64 0, AV.int IntKind.i64 0, AV.int IntKind.i64 0, AV.int IntKind.i64 0, AV.sl [], AV.sl [], AV.sl [], AV.sl [], AV.sl []] Bool.true)),
(81, (TI.mk Bool.true 12 208 TK.struct [(0, ((22, Bool.true))), (1, ((24, Bool.true))), (2, ((3, Bool.true))), (3, ((3, Bool.true))), (4, ((43, Bool.true)))] [AV.sl [], AV.sl [], AV.int IntKind.i64 0, AV.int IntKind.i64 0, AV.int IntKind.i64 0, AV.int IntKind.i64 0, AV.int IntKind.i64 0, AV.sl [], AV.sl [], AV.sl [], AV.sl [], AV.sl []] Bool.true)),
(82, (TI.mk Bool.false 1 8 TK.func [] [AV.nilf] Bool.false)),
(83, (TI.mk Bool.false 1 0 TK.other [] [AV.any] Bool.false)),
(84, (TI.mk Bool.false 1 8 TK.func [] [AV.nilf] Bool.false)),
(85, (TI.mk Bool.false 1 8 TK.func [] [AV.nilf] Bool.false)),
(86, (TI.mk Bool.false 1 8 TK.func [] [AV.nilf] Bool.false)),
(87, (TI.mk Bool.false 1 8 TK.func [] [AV.nilf] Bool.false)),
(88, (TI.mk Bool.false 1 8 TK.func [] [AV.nilf] Bool.false)),
(89, (TI.mk Bool.false 1 8 TK.func [] [AV.nilf] Bool.false)),
(90, (TI.mk Bool.false 1 8 TK.func [] [AV.nilf] Bool.false)),
(91, (TI.mk Bool.false 1 8 TK.func [] [AV.nilf] Bool.false)),
(92, (TI.mk Bool.false 1 8 TK.func [] [AV.nilf] Bool.false)),
(93, (TI.mk Bool.false 1 8 TK.ptr [] [AV.nilp] Bool.false)),
(94, (TI.mk Bool.true 13 216 TK.struct [(0, ((22, Bool.true))), (1, ((43, Bool.true))), (9, ((24, Bool.true))), (10, ((3, Bool.true))), (11, ((3, Bool.true))), (12, ((3, Bool.true)))] [AV.sl [], AV.int IntKind.i64 0, AV.int IntKind.i64 0, AV.int IntKind.i64 0, AV.sl [], AV.sl [], AV.sl [], AV.sl [], AV.sl [], AV.sl [], AV.int IntKind.i64 0, AV.int IntKind.i64 0, AV.int IntKind.i64 0] Bool.true)),
(95, (TI.mk Bool.true 13 216 TK.struct [(0, ((22, Bool.true))), (1, ((43, Bool.true))), (9, ((24, Bool.true))), (10, ((3, Bool.true))), (11, ((3, Bool.true))), (12, ((3, Bool.true)))] [AV.sl [], AV.int IntKind.i64 0, AV.int IntKind.i64 0, AV.int IntKind.i64 0, AV.sl [], AV.sl [], AV.sl [], AV.sl [], AV.sl [], AV.sl [], AV.int IntKind.i64 0, AV.int IntKind.i64 0, AV.int IntKind.i64 0] Bool.true)),
(96, (TI.mk Bool.false 1 8 TK.func [] [AV.nilf] Bool.false)),
(97, (TI.mk Bool.true 3 56 TK.struct [(0, ((3, Bool.true))), (1, ((25, Bool.true))), (2, ((23, Bool.true)))] [AV.int IntKind.i64 0, AV.sl [], AV.sl []] Bool.true)),
(98, (TI.mk Bool.true 3 56 TK.struct [(0, ((3, Bool.true))), (1, ((25, Bool.true))), (2, ((23, Bool.true)))] [AV.int IntKind.i64 0, AV.sl [], AV.sl []] Bool.true)),
(99, (TI.mk Bool.false 1 8 TK.func [] [AV.nilf] Bool.false)),
(100, (TI.mk Bool.true 3 56 TK.struct [(0, ((3, Bool.true))), (1, ((25, Bool.true))), (2, ((23, Bool.true)))] [AV.int IntKind.i64 0, AV.sl [], AV.sl []] Bool.true)),
(101, (TI.mk Bool.true 3 56 TK.struct [(0, ((3, Bool.true))), (1, ((25, Bool.true))), (2, ((23, Bool.true)))] [AV.int IntKind.i64 0, AV.sl [], AV.sl []] Bool.true)),
(102, (TI.mk Bool.false 1 8 TK.func [] [AV.nilf] Bool.false)),
(103, (TI.mk Bool.true 3 48 TK.struct [(0, ((9, Bool.true))), (1, ((65, Bool.true)))] [AV.str [], AV.int IntKind.i64 0, AV.sl []] Bool.true)),
(104, (TI.mk Bool.true 3 48 TK.struct [(0, ((9, Bool.true))), (1, ((65, Bool.true)))] [AV.str [], AV.int IntKind.i64 0, AV.sl []] Bool.true)),
(105, (TI.mk Bool.false 1 8 TK.func [] [AV.nilf] Bool.false)),
(106, (TI.mk Bool.false 1 8 TK.func [] [AV.nilf] Bool.false)),
(107, (TI.mk Bool.false 1 8 TK.func [] [AV.nilf] Bool.false)),
(108, (TI.mk Bool.false 1 8 TK.func [] [AV.nilf] Bool.false)),
(109, (TI.mk Bool.false 1 8 TK.func [] [AV.nilf] Bool.false)),
(110, (TI.mk Bool.false 1 8 TK.func [] [AV.nilf] Bool.false)),
(111, (TI.mk Bool.false 1 8 TK.func [] [AV.nilf] Bool.false)),
(112, (TI.mk Bool.false 1 8 TK.func [] [AV.nilf] Bool.false)),
(113, (TI.mk Bool.false 1 8 TK.func [] [AV.nilf] Bool.false)),
(114, (TI.mk Bool.false 1 8 TK.func [] [AV.nilf] Bool.false)),
(115, (TI.mk Bool.false 1 8 TK.func [] [AV.nilf] Bool.false)),
(116, (TI.mk Bool.false 1 8 TK.func [] [AV.nilf] Bool.false)),
(117, (TI.mk Bool.false 1 8 TK.func [] [AV.nilf] Bool.false)),
(118, (TI.mk Bool.false 1 8 TK.func [] [AV.nilf] Bool.false)),
(119, (TI.mk Bool.false 1 8 TK.func [] [AV.nilf] Bool.false)),
(120, (TI.mk Bool.false 1 8 TK.func [] [AV.nilf] Bool.false)),
(121, (TI.mk Bool.false 1 8 TK.func [] [AV.nilf] Bool.false)),
(122, (TI.mk Bool.false 1 8 TK.func [] [AV.nilf] Bool.false)),
(123, (TI.mk Bool.false 1 8 TK.func [] [AV.nilf] Bool.false)),
(124, (TI.mk Bool.false 1 8 TK.func [] [AV.nilf] Bool.false)),
(125, (TI.mk Bool.false 1 8 TK.func [] [AV.nilf] Bool.false)),
(126, (TI.mk Bool.false 1 8 TK.func [] [AV.nilf] Bool.false)),
(127, (TI.mk Bool.false 1 8 TK.func [] [AV.nilf] Bool.false)),
(128, (TI.mk Bool.false 1 8 TK.func [] [AV.nilf] Bool.false)),
(129, (TI.mk Bool.false 1 8 TK.func [] [AV.nilf] Bool.false)),
(130, (TI.mk Bool.false 1 8 TK.func [] [AV.nilf] Bool.false)),
(131, (TI.mk Bool.false 1 8 TK.func [] [AV.nilf] Bool.false)),
(132, (TI.mk Bool.true 4 40 TK.struct [(0, ((17, Bool.true))), (1, ((17, Bool.true))), (2, ((17, Bool.true))), (3, ((9, Bool.true)))] [AV.nilp, AV.nilp, AV.nilp, AV.str []] Bool.false)),
(133, (TI.mk Bool.true 4 40 TK.struct [(0, ((17, Bool.true))), (1, ((17, Bool.true))), (2, ((17, Bool.true))), (3, ((9, Bool.true)))] [AV.nilp, AV.nilp, AV.nilp, AV.str []] Bool.false)),
(134, (TI.mk Bool.true 0 0 (TK.array 0 16) [] [] Bool.false)),
(135, (TI.mk Bool.true 0 0 TK.struct [(0, ((134, Bool.false)))] [] Bool.false)),
(136, (TI.mk Bool.true 0 0 TK.struct [(0, ((134, Bool.false)))] [] Bool.false)),
(137, (TI.mk Bool.false 1 8 TK.func [] [AV.nilf] Bool.false)),
(138, (TI.mk Bool.false 1 4 (TK.int IntKind.u32) [] [AV.int IntKind.u32 0] Bool.false)),
(139, (TI.mk Bool.false 1 1 (TK.int IntKind.u8) [] [AV.int IntKind.u8 0] Bool.false)),
(140, (TI.mk Bool.false 1 1 (TK.int IntKind.u8) [] [AV.int IntKind.u8 0] Bool.false)),
(141, (TI.mk Bool.false 1 8 TK.func [] [AV.nilf] Bool.false)),
(142, (TI.mk Bool.false 1 8 TK.ptr [] [AV.nilp] Bool.false)),
(143, (TI.mk Bool.false 1 4 (TK.int IntKind.i32) [] [AV.int IntKind.i32 0] Bool.false)),
(144, (TI.mk Bool.false 1 4 (TK.int IntKind.i32) [] [AV.int IntKind.i32 0] Bool.false)),
(145, (TI.mk Bool.true 11 48 TK.struct [(0, ((12, Bool.true))), (1, ((12, Bool.true))), (2, ((138, Bool.true))), (3, ((139, Bool.true))), (4, ((5, Bool.true))), (5, ((5, Bool.true))), (6, ((140, Bool.true))), (7, ((141, Bool.true))), (8, ((142, Bool.true))), (9, ((143, Bool.true))), (10, ((144, Bool.true)))] [AV.int IntKind.u64 0, AV.int IntKind.u64 0, AV.int IntKind.u32 0, AV.int IntKind.u8 0, AV.int IntKind.u8 0, AV.int IntKind.u8 0, AV.int IntKind.u8 0, AV.nilf, AV.nilp, AV.int IntKind.i32 0, AV.int IntKind.i32 0] Bool.false)),
(146, (TI.mk Bool.true 11 48 TK.struct [(0, ((12, Bool.true))), (1, ((12, Bool.true))), (2, ((138, Bool.true))), (3, ((139, Bool.true))), (4, ((5, Bool.true))), (5, ((5, Bool.true))), (6, ((140, Bool.true))), (7, ((141, Bool.true))), (8, ((142, Bool.true))), (9, ((143, Bool.true))), (10, ((144, Bool.true)))] [AV.int IntKind.u64 0, AV.int IntKind.u64 0, AV.int IntKind.u32 0, AV.int IntKind.u8 0, AV.int IntKind.u8 0, AV.int IntKind.u8 0, AV.int IntKind.u8 0, AV.nilf, AV.nilp, AV.int IntKind.i32 0, AV.int IntKind.i32 0] Bool.false)),
(147, (TI.mk Bool.false 1 8 TK.other [] [AV.nilp] Bool.false))]
def findT : List (Nat × TI) → Nat → Option TI
  | [], _ => none
  | (k, x) :: r, t => bif Nat.beq k t then some x else findT r t
noncomputable def T : TT := findT tab
def ann3 : Ann := { kinds := [(25, .S), (27, .S)], hl := [99, 108], no := [144], nl := [38, 99, 108, 113, 147, 154, 169, 174, 180, 184, 188, 192, 206, 207], lw := [25, 27], joins := [(1000000, { vals := [(0, none), (1, none), (2, none), (3, none), (4, none), (5, none), (13, none), (15, none), (20, none)], fz := true })], loops := [(0, { vals := [(0, none), (1, none), (2, none), (3, none), (4, none), (5, none), (13, none), (15, none), (20, none), (21, none)] }), (2, { vals := [(0, none), (1, none), (2, none), (3, none), (4, none), (5, none), (13, none), (15, none), (20, none), (21, none), (22, none)] }), (4, { vals := [(3, none), (13, none), (15, none), (23, some 1), (24, none)] }), (6, { vals := [(3, none), (15, none), (25, none), (26, none), (27, none), (28, none), (29, none)] })] }
def ann4 : Ann := { kinds := [(16, .S), (20, .S)], no := [66], nl := [43, 55, 57, 61, 79, 80], lw := [16, 20], joins := [(51, { vals := [(0, none), (1, none), (2, none), (3, none), (4, none), (5, none), (6, none), (15, none), (16, none), (17, some 1), (18, none), (19, none)] })], loops := [(0, { vals := [(0, none), (1, none), (2, none), (3, none), (4, none), (5, none), (6, none), (15, none), (16, none), (17, some 1), (18, none)] })] }
def ann5 : Ann := { kinds := [(16, .S), (17, .S)], nl := [55, 59, 60, 65, 66], lw := [16, 17] }
def ann6 : Ann := { kinds := [(20, .S), (24, .S), (25, .S)], ha := [50], fz := [65, 179], no := [66, 183], nl := [43, 49, 85, 91, 96, 102, 111, 131, 139, 143, 148, 155, 159, 164, 170, 178, 188, 189], lw := [16, 20, 24, 25, 51], loops := [(0, { vals := [(0, none), (1, none), (2, none), (3, none), (4, none), (5, none), (13, none), (14, some 9), (15, none)] }), (2, { vals := [(0, none), (1, none), (2, none), (3, none), (4, none), (5, none), (13, none), (14, some 9), (15, none), (17, none), (17000, none), (17001, none), (17002, none), (17003, none), (17004, none), (17005, none), (17006, none), (17007, none), (17008, none)], locs := [(16, 17000, 0)], lbs := [(17000, 9)] }), (4, { vals := [(1, none), (2, none), (3, none), (5, none), (13, none), (14, some 9), (18, none), (20, none), (21, none)] }), (6, { vals := [(1, none), (2, none), (3, none), (5, none), (13, none), (14, some 9), (18, none), (20, none), (21, none), (22, none), (23, none)] })] }
def ann7 : Ann := { kinds := [(3, .S), (4, .S), (5, .S), (6, .S), (7, .S), (9, .S), (10, .S), (12, .S)], no := [15, 18, 25, 28, 30, 32, 36, 38, 44, 48, 50, 58, 60], nl := [35, 47, 55, 62, 65, 70, 75, 84, 85, 93, 98], lw := [3, 4, 5, 6, 7, 9, 10, 12] }
def ann8 : Ann := { nl := [40, 48, 57, 65, 74, 83, 86, 94, 103, 107, 115, 119, 132], loops := [(0, { vals := [(0, none), (1, none), (9, none)] }), (2, { vals := [(0, none), (1, none), (9, none), (10, none)] }), (4, { vals := [(0, none), (1, none), (9, none), (11, none)] }), (6, { vals := [(1, none), (12, none)] })] }
def ann9 : Ann := { nl := [15, 27, 30], loops := [(0, { vals := [(1, none), (2, none), (3, none), (7, none), (8, none)] })] }
def ann10 : Ann := { kinds := [(7, .S), (10, .S), (11, .S)], hb := [8, 26], no := [52, 58], nl := [23, 25, 28, 31, 35, 40, 42, 51], lw := [7, 8, 10, 11, 54], loops := [(0, { vals := [(5, some 2), (18, none), (19, none), (20, none)] }), (2, { vals := [(5, some 2), (18, none), (19, none), (20, none), (35, none), (36, none), (37, none), (9000, none), (9001, some 4)], locs := [(8, 9000, 0)], lbs := [(9000, 2)] })], nils := [(8, [1])] }
def ann11 : Ann := { kinds := [(7, .S), (10, .S)], hb := [8, 36], no := [59, 64], nl := [26, 28, 31, 35, 39, 46, 49, 58], lw := [7, 8, 10, 61], loops := [(0, { vals := [(0, none), (5, some 2), (6, none)] }), (2, { vals := [(0, none), (5, some 2), (6, none), (7, none), (9, none), (9000, none), (9001, some 4)], locs := [(8, 9000, 0)], lbs := [(9000, 2)] })], nils := [(8, [1])] }
def ann12 : Ann := { nl := [21, 26, 33, 38], loops := [(0, { vals := [(0, none), (1, none), (5, none)] })] }
def ann13 : Ann := { nl := [7, 9, 13, 16, 22, 25, 30, 31, 36, 38, 44, 48, 50] }
def ann14 : Ann := { lw := [12] }
def ann15 : Ann := { lw := [12] }
def ann16 : Ann := { iso := false, ha := [23, 26], hb := [3], no := [25], nl := [16, 22], loops := [(0, { vals := [(0, none), (3, none), (4, none)] })] }
def ann17 : Ann := { kinds := [(16, .S), (17, .S), (18, .S), (21, .S), (45, .H)], hl := [81, 110], ha := [89], hb := [44], no := [88], nl := [46, 50, 51, 59, 62, 66, 75, 76, 77, 81, 83, 85, 95, 96, 107, 110], lw := [14, 16, 17, 18, 21], loops := [(0, { vals := [(11, none), (16, none), (17, none), (18, none), (70, none), (71, none), (72, none), (15000, none), (15001, none), (15002, none), (15003, none), (15004, none), (15005, none), (15006, none), (15007, none)], locs := [(14, 15000, 0)], lbs := [(15000, 8)] })] }
def ann18 : Ann := { kinds := [(18, .S), (20, .S), (74, .H)], hl := [90, 100], hb := [73], nl := [54, 57, 61, 83, 90, 93, 100], lw := [14, 18, 20], joins := [(91, { vals := [(19, none), (15000, none), (15001, none), (15002, none), (15003, none), (15004, none), (15005, none), (15006, none), (15007, none)], locs := [(14, 15000, 0)], lbs := [(15000, 8)] })] }
def ann19 : Ann := { kinds := [(8, .S), (20, .H)], hb := [19], nl := [9, 11, 15], lw := [6, 8] }
def ann20 : Ann := { kinds := [(9, .S), (22, .H)], hl := [33, 40], hb := [21], nl := [27, 33, 40, 41], lw := [6, 9] }
def ann21 : Ann := { nl := [3] }
def ann22 : Ann := { nl := [3] }
def ann23 : Ann := { nl := [5, 8, 12, 13] }
def ann24 : Ann := { nl := [5, 8, 12, 13] }
def ann25 : Ann := { nl := [8, 11, 16, 19, 25, 31, 34, 36, 39, 43, 49, 53, 55, 59, 63, 67, 69, 73, 78, 82, 84, 88], loops := [(0, { vals := [(2, none), (3, none), (5, none)] }), (2, { vals := [(2, none), (3, none), (6, none)] })] }
def ann26 : Ann := { nl := [20, 24], loops := [(0, { vals := [(0, none), (1, none), (5, none)] })] }
def ann27 : Ann := { kinds := [(1, .S), (2, .S), (3, .S)], no := [5, 9, 12, 14, 18, 20, 22, 24], nl := [8, 13, 21], lw := [1, 2, 3] }
def ann28 : Ann := { lw := [2] }
def ann29 : Ann := { nl := [10, 15, 21, 27, 32, 35, 39, 45, 47, 54, 57, 62, 65, 67] }
def ann30 : Ann := { nl := [8, 18, 22, 27, 31, 38, 41, 48, 51, 65, 69, 74, 80, 86, 93], loops := [(0, { vals := [(1, none), (3, none)] }), (2, { vals := [(1, none), (4, none), (5, none)] })] }
def ann31 : Ann := { nl := [15, 27, 30], loops := [(0, { vals := [(1, none), (2, none), (3, none), (7, none), (8, none)] })] }
def ann32 : Ann := { kinds := [(4, .S)], nl := [14], lw := [4], loops := [(0, { vals := [(0, none), (8, none), (9, none), (10, none)] })] }
def ann33 : Ann := { nl := [18], loops := [(0, { vals := [(0, none), (3, none)] })] }
def ann34 : Ann := {  }
def ann35 : Ann := { iso := false, hl := [8], nl := [8] }
def ann36 : Ann := { iso := false, hl := [16], nl := [16, 20, 30], lw := [6] }
def ann37 : Ann := {  }
def ann38 : Ann := { nl := [3] }
def ann39 : Ann := { iso := false, ha := [7] }
def ann40 : Ann := { kinds := [(2, .S), (3, .S)], lw := [2, 3] }
def ann41 : Ann := { iso := false, nl := [5, 6, 7, 8], lw := [4] }
def ann42 : Ann := { iso := false, kinds := [(11, .S), (12, .S)], hl := [16, 26, 30, 67, 79], ha := [41], no := [40], nl := [16, 20, 26, 30, 34, 36, 48, 54, 57, 61, 67, 74, 79, 83], lw := [8, 9, 11, 12], joins := [(20, { vals := [(0, none), (1, none), (3, none), (6, none), (9000, none), (9001, none), (9002, none), (9003, none)], locs := [(8, 9000, 0)], lbs := [(9000, 4)] })], loops := [(0, { vals := [(0, none), (3, none), (6, none), (48, none), (49, none), (50, none), (9000, none), (9001, none), (9002, none), (9003, none), (10000, none), (10001, none), (10002, none)], locs := [(8, 9000, 0), (9, 10000, 0)], lbs := [(9000, 4), (10000, 3)] })] }
def ann43 : Ann := { nl := [21, 26, 33, 39, 48], loops := [(0, { vals := [(0, none), (1, none), (5, none)] })] }
def ann44 : Ann := { nl := [16], loops := [(0, { vals := [(0, none), (1, none), (5, none)] })] }
def ann45 : Ann := { nl := [15, 24, 28], loops := [(0, { vals := [(0, none), (1, none), (2, none), (7, none)] })] }
def ann46 : Ann := { nl := [13], loops := [(0, { vals := [(0, none), (3, none)] })] }
def ann47 : Ann := { iso := false, kinds := [(11, .S)], hl := [16, 22, 33, 37, 76, 88], ha := [49], no := [48], nl := [16, 22, 27, 33, 37, 41, 43, 63, 67, 71, 76, 83, 88, 92], lw := [8, 9, 11], joins := [(27, { vals := [(0, none), (1, none), (3, none), (6, none), (9000, none), (9001, none), (9002, none), (9003, none)], locs := [(8, 9000, 0)], lbs := [(9000, 4)] })], loops := [(0, { vals := [(0, none), (3, none), (6, none), (10, none), (9000, none), (9001, none), (9002, none), (9003, none), (10000, none), (10001, none), (10002, none)], locs := [(8, 9000, 0), (9, 10000, 0)], lbs := [(9000, 4), (10000, 3)] })] }
def ann48 : Ann := { nl := [3] }
def ann49 : Ann := { iso := false, nl := [5, 6, 7, 9], lw := [4] }
def ann50 : Ann := { iso := false, kinds := [(9, .S)], hl := [14, 20], nl := [14, 20, 25, 35, 42, 46, 51, 55, 60, 66, 74, 77, 79, 82, 85, 94, 96, 98, 100, 103, 105, 107, 114, 116, 118, 121, 125, 129, 131, 133, 139, 141, 143, 150, 152, 154, 157, 159, 161, 164, 166, 168, 173, 175, 177, 179, 181, 185, 187, 192, 193, 198, 200, 202, 205, 207, 210, 218, 221, 225, 226, 229, 230], lw := [6, 9], joins := [(87, { vals := [(0, none), (4, none), (5, none), (42, none), (87, none), (7000, none), (7001, none), (7002, none), (7003, none)], locs := [(6, 7000, 0)], lbs := [(7000, 4)] }), (110, { vals := [(0, none), (4, none), (5, none), (42, none), (110, none), (7000, none), (7001, none), (7002, none), (7003, none)], locs := [(6, 7000, 0)], lbs := [(7000, 4)] }), (1000000, { vals := [(0, none), (4, none), (5, none), (7000, none), (7001, none), (7002, none), (7003, none)], locs := [(6, 7000, 0)], lbs := [(7000, 4)] })], loops := [(1, { vals := [(0, none), (4, none), (5, none), (8, none), (7000, none), (7001, none), (7002, none), (7003, none)], locs := [(6, 7000, 0)], lbs := [(7000, 4)] })], ords := [(23, [0, 1, 2, 3, 4, 5, 6, 7, 9, 10, 11, 12, 13, 14, 8, 15, 16, 17]), (26, [0, 1, 2, 3, 4, 5, 7, 8, 9, 6, 10]), (36, [0, 1, 2, 3, 4, 5, 6, 7, 8, 9, 12, 13, 14, 15, 10, 11, 16, 17]), (40, [0, 1, 2, 3, 4, 5, 7, 6, 8])] }
def ann51 : Ann := { iso := false, kinds := [(9, .S)], hl := [14, 20, 27], nl := [14, 20, 27, 32, 42, 50, 54, 59, 63, 69, 75, 83, 86, 88, 91, 94, 100, 101, 106, 107, 112, 113, 119, 120, 125, 127, 129, 132, 134, 135, 138, 140, 143, 144], lw := [6, 9], joins := [(115, { vals := [(0, none), (4, none), (5, none), (50, none), (115, none), (7000, none), (7001, none), (7002, none), (7003, none)], locs := [(6, 7000, 0)], lbs := [(7000, 4)] })], loops := [(1, { vals := [(0, none), (4, none), (5, none), (8, none), (7000, none), (7001, none), (7002, none), (7003, none)], locs := [(6, 7000, 0)], lbs := [(7000, 4)] })], ords := [(33, [0, 1, 2, 3, 4, 5, 7, 6, 8])] }
def ann52 : Ann := { nl := [5, 8, 12, 16, 21, 27, 31, 36, 41, 45, 50, 53, 59, 65, 70] }
def ann53 : Ann := { nl := [10, 15, 20, 23, 28, 31, 35, 38, 43, 48, 52, 56, 62, 68, 74, 77], loops := [(0, { vals := [(1, none), (2, none), (5, none)] })] }
def ann54 : Ann := { nl := [6, 8, 12, 14, 19, 21, 26, 28] }
def ann55 : Ann := { nl := [7, 9, 13, 15, 20, 23, 29, 35, 38, 40, 43, 47, 50, 52, 55], loops := [(0, { vals := [(2, none), (3, none), (5, none)] })] }
def ann56 : Ann := { nl := [18], loops := [(0, { vals := [(0, none), (3, none)] })] }
def ann57 : Ann := { nl := [15, 27, 31], loops := [(0, { vals := [(1, none), (2, none), (3, none), (7, none), (8, none)] })] }
def ann58 : Ann := {  }
def ann59 : Ann := { nl := [5, 7] }
def ann60 : Ann := { kinds := [(8, .S), (9, .S)], nl := [21, 25, 27, 28], lw := [8, 9], loops := [(0, { vals := [(1, none), (2, none), (15, none), (16, none), (17, none)] })] }
def ann61 : Ann := { nl := [6, 8, 12, 15, 21] }
def ann62 : Ann := { nl := [3] }
def ann63 : Ann := { nl := [15], loops := [(0, { vals := [(0, none), (1, none), (7, none), (8, none)] })] }
def ann64 : Ann := { nl := [5, 6] }
def ann65 : Ann := { nl := [15], loops := [(0, { vals := [(0, none), (1, none), (7, none), (8, none)] })] }
def ann66 : Ann := { nl := [5, 6] }
def ann67 : Ann := { nl := [15], loops := [(0, { vals := [(0, none), (1, none), (7, none), (8, none)] })] }
def ann69 : Ann := {  }
def ann70 : Ann := { no := [13, 19], nl := [8, 10, 16, 18], lw := [6] }
def ann71 : Ann := { iso := false, hl := [9], nl := [9], lw := [4], joins := [(10, { vals := [(5000, none), (5001, none), (5002, none), (5003, none)], locs := [(4, 5000, 0)], lbs := [(5000, 4)] })] }
def ann72 : Ann := { kinds := [(3, .L)], no := [12, 20], nl := [19], lw := [6, 14, 22] }
def ann73 : Ann := { joins := [(4, { vals := [(3, none), (4, none)] }), (9, { vals := [(3, none), (9, none)] }), (14, { vals := [(3, none), (14, none)] }), (25, { vals := [(25, none)] })] }
def ann74 : Ann := { lw := [2] }
def ann75 : Ann := { lw := [2] }
def ann76 : Ann := { iso := false, nl := [10, 12, 16, 21, 23, 27, 31, 39, 41, 47, 49, 55, 57, 61, 63], lw := [6] }
def ann77 : Ann := { iso := false, kinds := [(7, .S)], nl := [9, 10, 13, 17], lw := [7] }
def ann78 : Ann := { iso := false, kinds := [(9, .S)], hb := [7, 31], no := [45], nl := [11, 14, 19, 24, 29, 33, 38, 42, 43], lw := [6, 7, 9, 47], loops := [(0, { vals := [(0, none), (4, none), (33, none), (34, none), (35, none), (7000, none), (7001, none), (7002, none), (7003, none), (8000, none), (8001, none), (8002, none), (8003, some 4)], locs := [(6, 7000, 0), (7, 8000, 0)], lbs := [(7000, 4), (8000, 4)] })], nils := [(7, [3])] }
def ann79 : Ann := { nl := [15], loops := [(0, { vals := [(0, none), (1, none), (7, none), (8, none)] })] }
def ann80 : Ann := { iso := false, kinds := [(8, .S), (12, .S)], no := [61], nl := [14, 16, 20, 26, 33, 37, 42, 45, 50, 55, 58, 59, 66], lw := [6, 8, 12], joins := [(17, { vals := [(0, none), (4, none), (5, none), (7, none), (7000, none), (7001, none), (7002, none), (7003, none)], locs := [(6, 7000, 0)], lbs := [(7000, 4)] })], loops := [(0, { vals := [(0, none), (4, none), (7, none), (8, none), (10, some 4), (50, none), (51, none), (52, none), (7000, none), (7001, none), (7002, none), (7003, none)], locs := [(6, 7000, 0)], lbs := [(7000, 4)] })] }
def ann81 : Ann := { iso := false, kinds := [(7, .S)], hl := [47, 54, 60, 69, 90, 105, 110, 127], ha := [77], no := [76], nl := [12, 15, 17, 19, 22, 26, 30, 35, 40, 47, 54, 56, 60, 69, 71, 73, 84, 90, 92, 95, 105, 107, 110, 112, 117, 119, 121, 127], lw := [6, 7], joins := [(49, { vals := [(0, none), (5, none), (7, none), (8, none), (7000, none), (7001, none), (7002, none), (7003, none)], locs := [(6, 7000, 0)], lbs := [(7000, 4)] }), (113, { vals := [(9, none), (10, none), (7000, none), (7001, none), (7002, none), (7003, none)], locs := [(6, 7000, 0)], lbs := [(7000, 4)] })], ords := [(2, [0, 1, 2, 3, 4, 5, 7, 6, 8])] }
def ann82 : Ann := { joins := [(4, { vals := [(0, none), (3, none), (4, none)] }), (9, { vals := [(0, none), (3, none), (9, none)] }), (16, { vals := [(0, none), (16, none)] })] }
def ann83 : Ann := { lw := [2, 3, 6], joins := [(5, { vals := [(3000, none), (3001, none), (3002, none), (3003, none), (4000, none), (4001, none), (4002, none), (4003, none)], locs := [(2, 3000, 0), (3, 4000, 0)], lbs := [(3000, 4), (4000, 4)] })] }
def ann84 : Ann := { iso := false, hl := [59], hb := [7, 34], no := [52], nl := [10, 13, 18, 25, 32, 37, 45, 47, 50, 59], lw := [6, 7, 54], loops := [(0, { vals := [(0, none), (4, none), (5, none), (8, none), (7000, none), (7001, none), (7002, none), (7003, none), (8000, none), (8001, none), (8002, none), (8003, some 4)], locs := [(6, 7000, 0), (7, 8000, 0)], lbs := [(7000, 4), (8000, 4)] })], nils := [(7, [3])] }
def ann85 : Ann := { iso := false, kinds := [(9, .S)], hl := [20, 27, 39], no := [82], nl := [13, 15, 20, 22, 27, 30, 39, 43, 46, 48, 52, 58, 61, 68, 75, 77, 80, 86], lw := [6, 9], joins := [(16, { vals := [(0, none), (4, none), (5, none), (7, none), (7000, none), (7001, none), (7002, none), (7003, none)], locs := [(6, 7000, 0)], lbs := [(7000, 4)] })], loops := [(0, { vals := [(0, none), (4, none), (5, none), (7, none), (9, none), (10, some 4), (11, none), (7000, none), (7001, none), (7002, none), (7003, none)], locs := [(6, 7000, 0)], lbs := [(7000, 4)] })] }
def ann86 : Ann := { iso := false, kinds := [(7, .S)], hl := [20, 51, 55, 61, 65, 71, 80], ha := [88], no := [87], nl := [10, 12, 14, 20, 22, 24, 29, 33, 38, 43, 51, 55, 61, 65, 67, 71, 80, 82, 84], lw := [6, 7], joins := [(57, { vals := [(0, none), (5, none), (7, none), (8, none), (7000, none), (7001, none), (7002, none), (7003, none)], locs := [(6, 7000, 0)], lbs := [(7000, 4)] })], ords := [(1, [0, 1, 2, 3, 4, 5, 7, 6, 8])] }
def ann87 : Ann := { iso := false, kinds := [(9, .S)], hl := [18, 53, 58, 61, 73, 79, 84], nl := [11, 18, 20, 23, 33, 35, 47, 53, 55, 58, 61, 63, 65, 67, 73, 79, 81, 84, 86, 88], lw := [6, 9], joins := [(74, { vals := [(9, none), (7000, none), (7001, none), (7002, none), (7003, none)], locs := [(6, 7000, 0)], lbs := [(7000, 4)] })], loops := [(0, { vals := [(0, none), (4, none), (5, none), (7, none), (8, none), (7000, none), (7001, none), (7002, none), (7003, none)], locs := [(6, 7000, 0)], lbs := [(7000, 4)] })], ords := [(11, [0, 1, 2, 3, 4, 5, 7, 6, 8])] }
def ann88 : Ann := { iso := false, kinds := [(7, .S), (9, .S), (10, .S)], hl := [22, 100, 121], nl := [12, 14, 16, 22, 24, 26, 31, 37, 40, 42, 45, 48, 57, 62, 65, 69, 72, 74, 76, 79, 82, 85, 88, 90, 92, 94, 100, 104, 109, 111, 113, 115, 121, 123, 126, 127, 128], lw := [6, 7, 9, 10], joins := [(51, { vals := [(0, none), (4, none), (5, none), (7, none), (51, none), (7000, none), (7001, none), (7002, none), (7003, none)], locs := [(6, 7000, 0)], lbs := [(7000, 4)] })], loops := [(1, { vals := [(0, none), (5, none), (7, none), (8, none), (7000, none), (7001, none), (7002, none), (7003, none)], locs := [(6, 7000, 0)], lbs := [(7000, 4)] })], ords := [(1, [0, 1, 2, 3, 4, 5, 7, 6, 8]), (24, [0, 1, 2, 3, 4, 5, 7, 6, 8]), (28, [0, 1, 2, 3, 4, 5, 7, 6, 8])] }
def ann89 : Ann := { nl := [14, 18], loops := [(0, { vals := [(0, none), (3, none)] })] }
def ann90 : Ann := { nl := [4, 5] }
def ann91 : Ann := { nl := [14, 18], loops := [(0, { vals := [(0, none), (3, none)] })] }
def ann92 : Ann := { nl := [19, 23], loops := [(0, { vals := [(0, none), (1, none), (12, none), (13, none)] })] }
def ann93 : Ann := { kinds := [(8, .S), (9, .S)], nl := [21, 25, 27, 28], lw := [8, 9], loops := [(0, { vals := [(1, none), (2, none), (15, none), (16, none), (17, none)] })] }
def ann94 : Ann := {  }
def ann95 : Ann := {  }
def ann96 : Ann := {  }
def ann97 : Ann := { kinds := [(5, .S)], nl := [7, 12, 14], lw := [5], loops := [(0, { vals := [(3, none), (7, none), (8, none), (9, none)] })] }
def ann98 : Ann := { nl := [15], loops := [(0, { vals := [(0, none), (1, none), (7, none), (8, none)] })] }
def ann99 : Ann := { nl := [5, 7] }
def ann100 : Ann := { nl := [3] }
def ann101 : Ann := { iso := false, kinds := [(6, .L)], nl := [15, 26, 38, 47, 55, 63, 71], lw := [8, 49, 65, 73], joins := [(1000000, { vals := [(7000, none), (7001, none), (7002, none), (7003, none), (9000, none), (9001, none), (9002, none), (9003, none)], locs := [(6, 7000, 0), (8, 9000, 0)], lbs := [(7000, 4), (9000, 4)] })] }
def ann102 : Ann := { nl := [11, 18, 21], loops := [(0, { vals := [(1, none), (2, none), (5, none), (6, none)] })] }
noncomputable def tabF : List (Nat × (Func × Ann)) := [
(3, (Try.f3, ann3)),
(4, (Try.f4, ann4)),
(5, (Try.f5, ann5)),
(6, (Try.f6, ann6)),
(7, (Try.f7, ann7)),
(8, (Try.f8, ann8)),
(9, (Try.f9, ann9)),
(10, (Try.f10, ann10)),
(11, (Try.f11, ann11)),
(12, (Try.f12, ann12)),
(13, (Try.f13, ann13)),
(14, (Try.f14, ann14)),
(15, (Try.f15, ann15)),
(16, (Try.f16, ann16)),
(17, (Try.f17, ann17)),
(18, (Try.f18, ann18)),
(19, (Try.f19, ann19)),
(20, (Try.f20, ann20)),
(21, (Try.f21, ann21)),
(22, (Try.f22, ann22)),
(23, (Try.f23, ann23)),
(24, (Try.f24, ann24)),
(25, (Try.f25, ann25)),
(26, (Try.f26, ann26)),
(27, (Try.f27, ann27)),
(28, (Try.f28, ann28)),
(29, (Try.f29, ann29)),
(30, (Try.f30, ann30)),
(31, (Try.f31, ann31)),
(32, (Try.f32, ann32)),
(33, (Try.f33, ann33)),
(34, (Try.f34, ann34)),
(35, (Try.f35, ann35)),
(36, (Try.f36, ann36)),
(37, (Try.f37, ann37)),
(38, (Try.f38, ann38)),
(41, (Try.f41, ann41)),
(42, (Try.f42, ann42)),
(43, (Try.f43, ann43)),
(44, (Try.f44, ann44)),
(45, (Try.f45, ann45)),
(46, (Try.f46, ann46)),
(47, (Try.f47, ann47)),
(48, (Try.f48, ann48)),
(49, (Try.f49, ann49)),
(50, (Try.f50, ann50)),
(51, (Try.f51, ann51)),
(52, (Try.f52, ann52)),
(53, (Try.f53, ann53)),
(54, (Try.f54, ann54)),
(55, (Try.f55, ann55)),
(56, (Try.f56, ann56)),
(57, (Try.f57, ann57)),
(58, (Try.f58, ann58)),
(59, (Try.f59, ann59)),
(60, (Try.f60, ann60)),
(61, (Try.f61, ann61)),
(62, (Try.f62, ann62)),
(63, (Try.f63, ann63)),
(64, (Try.f64, ann64)),
(65, (Try.f65, ann65)),
(66, (Try.f66, ann66)),
(67, (Try.f67, ann67)),
(69, (Try.f69, ann69)),
(70, (Try.f70, ann70)),
(71, (Try.f71, ann71)),
(72, (Try.f72, ann72)),
(73, (Try.f73, ann73)),
(74, (Try.f74, ann74)),
(75, (Try.f75, ann75)),
(76, (Try.f76, ann76)),
(77, (Try.f77, ann77)),
(78, (Try.f78, ann78)),
(79, (Try.f79, ann79)),
(80, (Try.f80, ann80)),
(81, (Try.f81, ann81)),
(82, (Try.f82, ann82)),
(83, (Try.f83, ann83)),
(84, (Try.f84, ann84)),
(85, (Try.f85, ann85)),
(86, (Try.f86, ann86)),
(87, (Try.f87, ann87)),
(88, (Try.f88, ann88)),
(89, (Try.f89, ann89)),
(90, (Try.f90, ann90)),
(91, (Try.f91, ann91)),
(92, (Try.f92, ann92)),
(93, (Try.f93, ann93)),
(94, (Try.f94, ann94)),
(95, (Try.f95, ann95)),
(97, (Try.f97, ann97)),
(98, (Try.f98, ann98)),
(99, (Try.f99, ann99)),
(100, (Try.f100, ann100)),
(101, (Try.f101, ann101)),
(102, (Try.f102, ann102))]
def findF : List (Nat × (Func × Ann)) → Nat → Option (Func × Ann)
  | [], _ => none
  | (k, x) :: r, t => bif Nat.beq k t then some x else findF r t
def own : FuncId → Option Nat := fun f => bif Nat.beq f 94 then some 1 else bif Nat.beq f 95 then some 4 else none
noncomputable def other : FuncId → Option ((FuncId → List AV → M AV) → List AV → M AV) := fun f =>
  bif Nat.beq f 39 then some (cloneH T 23) else bif Nat.beq f 40 then some (tryE 33 .i64 (.agg [.int .i64 0, .int .i64 0, .sl [], .sl []])) else bif Nat.beq f 96 then some (cloneV T 25) else none
noncomputable def pg : Pg := { T := T, funcs := findF tabF, own := own, other := other, nw := fun f => bif Nat.beq f 39 then true else false }
theorem hOther : OtherLim pg := by
  intro f E hE call calls hc
  have h0 : other f = some E := hE
  unfold other at h0
  rcases other_bif h0 with rfl | h0
  · exact cloneH_lim _ _ _ _
  rcases other_bif h0 with rfl | h0
  · exact tryE_lim _ _ _ _ _ hc
  rcases other_bif h0 with rfl | h0
  · exact cloneV_lim _ _ _ _
  cases h0
end Go.Proofs.Ytgbopmciiadmlaa
