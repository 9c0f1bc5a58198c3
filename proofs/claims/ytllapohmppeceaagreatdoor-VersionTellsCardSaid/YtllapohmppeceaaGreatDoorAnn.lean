/- Annotations of the functions, the table of types, the program of the abstract evaluator: written by a program. No condition. -/
import Derived.Test.YtllapohmppeceaaGreatDoorLc
import Derived.Test.YtllapohmppeceaaGreatDoorProg
namespace Go.Proofs.YtllapohmppeceaaGreatDoor
open Go Go.Av
noncomputable def tab : List (Nat × TI) := [
(0, (TI.mk Bool.false 1 0 TK.other [] [AV.any] Bool.false)),
(1, (TI.mk Bool.false 1 8 TK.func [] [AV.nilf] Bool.false)),
(2, (TI.mk Bool.false 1 8 (TK.int IntKind.i64) [] [AV.int IntKind.i64 0] Bool.false)),
(3, (TI.mk Bool.false 1 8 (TK.int IntKind.i64) [] [AV.int IntKind.i64 0] Bool.false)),
(4, (TI.mk Bool.false 1 1 TK.bool [] [AV.bool Bool.false] Bool.false)),
(5, (TI.mk Bool.false 1 1 (TK.int IntKind.u8) [] [AV.int IntKind.u8 0] Bool.false)),
(6, (TI.mk Bool.false 1 1 (TK.int IntKind.u8) [] [AV.int IntKind.u8 0] Bool.false)),
(7, (TI.mk Bool.true 4 24 TK.struct [(0, ((2, Bool.true))), (1, ((3, Bool.true))), (2, ((4, Bool.true))), (3, ((6, Bool.true)))] [AV.int IntKind.i64 0, AV.int IntKind.i64 0, AV.bool Bool.false, AV.int IntKind.u8 0] Bool.true)),
(8, (TI.mk Bool.true 4 24 TK.struct [(0, ((2, Bool.true))), (1, ((3, Bool.true))), (2, ((4, Bool.true))), (3, ((6, Bool.true)))] [AV.int IntKind.i64 0, AV.int IntKind.i64 0, AV.bool Bool.false, AV.int IntKind.u8 0] Bool.true)),
(9, (TI.mk Bool.false 1 16 TK.str [] [AV.str []] Bool.false)),
(10, (TI.mk Bool.false 1 16 TK.str [] [AV.str []] Bool.false)),
(11, (TI.mk Bool.false 1 16 TK.str [] [AV.str []] Bool.false)),
(12, (TI.mk Bool.false 1 8 (TK.int IntKind.u64) [] [AV.int IntKind.u64 0] Bool.false)),
(13, (TI.mk Bool.true 2 24 TK.struct [(0, ((9, Bool.true))), (1, ((12, Bool.true)))] [AV.str [], AV.int IntKind.u64 0] Bool.false)),
(14, (TI.mk Bool.true 2 24 TK.struct [(0, ((9, Bool.true))), (1, ((12, Bool.true)))] [AV.str [], AV.int IntKind.u64 0] Bool.false)),
(15, (TI.mk Bool.false 1 8 TK.ptr [] [AV.nilp] Bool.false)),
(16, (TI.mk Bool.false 1 8 TK.ptr [] [AV.nilp] Bool.false)),
(17, (TI.mk Bool.false 1 8 TK.ptr [] [AV.nilp] Bool.false)),
(18, (TI.mk Bool.true 1 8 TK.struct [(0, ((17, Bool.true)))] [AV.nilp] Bool.false)),
(19, (TI.mk Bool.true 1 8 TK.struct [(0, ((17, Bool.true)))] [AV.nilp] Bool.false)),
(20, (TI.mk Bool.false 1 16 TK.iface [] [AV.nili] Bool.false)),
(21, (TI.mk Bool.false 1 4 (TK.int IntKind.i32) [] [AV.int IntKind.i32 0] Bool.false)),
(22, (TI.mk Bool.true 3 24 TK.struct [(0, ((3, Bool.true))), (1, ((3, Bool.true))), (2, ((3, Bool.true)))] [AV.int IntKind.i64 0, AV.int IntKind.i64 0, AV.int IntKind.i64 0] Bool.true)),
(23, (TI.mk Bool.true 3 24 TK.struct [(0, ((3, Bool.true))), (1, ((3, Bool.true))), (2, ((3, Bool.true)))] [AV.int IntKind.i64 0, AV.int IntKind.i64 0, AV.int IntKind.i64 0] Bool.true)),
(24, (TI.mk Bool.false 1 24 (TK.slice 40) [] [AV.sl []] Bool.false)),
(25, (TI.mk Bool.false 1 24 (TK.slice 23) [] [AV.sl []] Bool.false)),
(26, (TI.mk Bool.false 1 8 TK.func [] [AV.nilf] Bool.false)),
(27, (TI.mk Bool.false 1 0 TK.other [] [AV.any] Bool.false)),
(28, (TI.mk Bool.false 1 8 TK.func [] [AV.nilf] Bool.false)),
(29, (TI.mk Bool.false 1 8 TK.func [] [AV.nilf] Bool.false)),
(30, (TI.mk Bool.false 1 8 TK.func [] [AV.nilf] Bool.false)),
(31, (TI.mk Bool.false 1 8 TK.func [] [AV.nilf] Bool.false)),
(32, (TI.mk Bool.false 1 8 TK.func [] [AV.nilf] Bool.false)),
(33, (TI.mk Bool.false 1 8 TK.func [] [AV.nilf] Bool.false)),
(34, (TI.mk Bool.false 1 8 TK.func [] [AV.nilf] Bool.false)),
(35, (TI.mk Bool.false 1 8 TK.func [] [AV.nilf] Bool.false)),
(36, (TI.mk Bool.false 1 8 TK.func [] [AV.nilf] Bool.false)),
(37, (TI.mk Bool.false 1 8 TK.func [] [AV.nilf] Bool.false)),
(38, (TI.mk Bool.false 1 8 TK.func [] [AV.nilf] Bool.false)),
(39, (TI.mk Bool.true 6 48 TK.struct [(0, ((23, Bool.true))), (3, ((23, Bool.true)))] [AV.int IntKind.i64 0, AV.int IntKind.i64 0, AV.int IntKind.i64 0, AV.int IntKind.i64 0, AV.int IntKind.i64 0, AV.int IntKind.i64 0] Bool.true)),
(40, (TI.mk Bool.true 6 48 TK.struct [(0, ((23, Bool.true))), (3, ((23, Bool.true)))] [AV.int IntKind.i64 0, AV.int IntKind.i64 0, AV.int IntKind.i64 0, AV.int IntKind.i64 0, AV.int IntKind.i64 0, AV.int IntKind.i64 0] Bool.true)),
(41, (TI.mk Bool.false 1 8 TK.func [] [AV.nilf] Bool.false)),
(42, (TI.mk Bool.false 1 8 TK.func [] [AV.nilf] Bool.false)),
(43, (TI.mk Bool.false 1 24 (TK.slice 9) [] [AV.sl []] Bool.false)),
(44, (TI.mk Bool.false 1 8 TK.func [] [AV.nilf] Bool.false)),
(45, (TI.mk Bool.true 3 24 (TK.array 3 3) [] [AV.int IntKind.i64 0, AV.int IntKind.i64 0, AV.int IntKind.i64 0] Bool.false)),
(46, (TI.mk Bool.false 1 16 TK.iface [] [AV.nili] Bool.false)),
(47, (TI.mk Bool.false 1 16 TK.iface [] [AV.nili] Bool.false)),
(48, (TI.mk Bool.false 1 0 TK.other [] [AV.any] Bool.false)),
(49, (TI.mk Bool.false 1 8 TK.func [] [AV.nilf] Bool.false)),
(50, (TI.mk Bool.false 1 8 TK.func [] [AV.nilf] Bool.false)),
(51, (TI.mk Bool.false 1 24 (TK.slice 3) [] [AV.sl []] Bool.false)),
(52, (TI.mk Bool.false 1 8 TK.func [] [AV.nilf] Bool.false)),
(53, (TI.mk Bool.false 1 8 TK.func [] [AV.nilf] Bool.false)),
(54, (TI.mk Bool.false 1 8 TK.func [] [AV.nilf] Bool.false)),
(55, (TI.mk Bool.false 1 8 TK.func [] [AV.nilf] Bool.false)),
(56, (TI.mk Bool.false 1 8 TK.func [] [AV.nilf] Bool.false)),
(57, (TI.mk Bool.false 1 8 TK.func [] [AV.nilf] Bool.false)),
(58, (TI.mk Bool.false 1 8 TK.func [] [AV.nilf] Bool.false)),
(59, (TI.mk Bool.false 1 8 TK.func [] [AV.nilf] Bool.false)),
(60, (TI.mk Bool.false 1 8 TK.func [] [AV.nilf] Bool.false)),
(61, (TI.mk Bool.false 1 8 TK.func [] [AV.nilf] Bool.false)),
(62, (TI.mk Bool.false 1 8 TK.func [] [AV.nilf] Bool.false)),
(63, (TI.mk Bool.false 1 8 TK.func [] [AV.nilf] Bool.false)),
(64, (TI.mk Bool.false 1 8 TK.func [] [AV.nilf] Bool.false)),
(65, (TI.mk Bool.false 1 8 TK.func [] [AV.nilf] Bool.false)),
(66, (TI.mk Bool.false 1 8 TK.func [] [AV.nilf] Bool.false)),
(67, (TI.mk Bool.false 1 8 TK.func [] [AV.nilf] Bool.false)),
(68, (TI.mk Bool.false 1 8 TK.func [] [AV.nilf] Bool.false)),
(69, (TI.mk Bool.false 1 8 TK.func [] [AV.nilf] Bool.false)),
(70, (TI.mk Bool.false 1 8 (TK.int IntKind.u64) [] [AV.int IntKind.u64 0] Bool.false)),
(71, (TI.mk Bool.false 1 24 (TK.slice 24) [] [AV.sl []] Bool.false)),
(72, (TI.mk Bool.false 1 8 TK.func [] [AV.nilf] Bool.false)),
(73, (TI.mk Bool.false 1 8 TK.func [] [AV.nilf] Bool.false)),
(74, (TI.mk Bool.false 1 8 TK.func [] [AV.nilf] Bool.false)),
(75, (TI.mk Bool.false 1 8 (TK.int IntKind.i64) [] [AV.int IntKind.i64 0] Bool.false)),
(76, (TI.mk Bool.false 1 24 (TK.slice 5) [] [AV.sl []] Bool.false)),
(77, (TI.mk Bool.false 1 0 TK.other [] [AV.any] Bool.false)),
(78, (TI.mk Bool.false 1 8 TK.func [] [AV.nilf] Bool.false)),
(79, (TI.mk Bool.false 1 8 TK.ptr [] [AV.nilp] Bool.false)),
(80, (TI.mk Bool.false 1 8 TK.func [] [AV.nilf] Bool.false)),
(81, (TI.mk Bool.false 1 8 TK.func [] [AV.nilf] Bool.false)),
(82, (TI.mk Bool.false 1 8 TK.func [] [AV.nilf] Bool.false)),
(83, (TI.mk Bool.false 1 8 TK.func [] [AV.nilf] Bool.false)),
(84, (TI.mk Bool.false 1 8 (TK.int IntKind.i64) [] [AV.int IntKind.i64 0] Bool.false)),
(85, (TI.mk Bool.false 1 0 TK.other [] [AV.any] Bool.false)),
(86, (TI.mk Bool.false 1 8 TK.func [] [AV.nilf] Bool.false)),
(87, (TI.mk Bool.false 1 8 TK.func [] [AV.nilf] Bool.false)),
(88, (TI.mk Bool.false 1 8 TK.func [] [AV.nilf] Bool.false)),
(89, (TI.mk Bool.false 1 0 TK.other [] [AV.any] Bool.false)),
(90, (TI.mk Bool.false 1 8 TK.func [] [AV.nilf] Bool.false)),
(91, (TI.mk Bool.false 1 8 TK.func [] [AV.nilf] Bool.false)),
(92, (TI.mk Bool.false 1 4 (TK.int IntKind.u32) [] [AV.int IntKind.u32 0] Bool.false)),
(93, (TI.mk Bool.false 1 8 TK.func [] [AV.nilf] Bool.false)),
(94, (TI.mk Bool.false 1 8 (TK.int IntKind.u64) [] [AV.int IntKind.u64 0] Bool.false)),
(95, (TI.mk Bool.false 1 8 TK.func [] [AV.nilf] Bool.false)),
(96, (TI.mk Bool.false 1 0 TK.other [] [AV.any] Bool.false)),
(97, (TI.mk Bool.false 1 8 TK.func [] [AV.nilf] Bool.false)),
(98, (TI.mk Bool.false 1 8 TK.func [] [AV.nilf] Bool.false)),
(99, (TI.mk Bool.false 1 0 TK.other [] [AV.any] Bool.false)),
(100, (TI.mk Bool.false 1 8 TK.func [] [AV.nilf] Bool.false)),
(101, (TI.mk Bool.false 1 8 TK.func [] [AV.nilf] Bool.false)),
(102, (TI.mk Bool.true 3 48 TK.struct [(0, ((9, Bool.true))), (1, ((9, Bool.true))), (2, ((47, Bool.true)))] [AV.str [], AV.str [], AV.nili] Bool.false)),
(103, (TI.mk Bool.true 3 48 TK.struct [(0, ((9, Bool.true))), (1, ((9, Bool.true))), (2, ((47, Bool.true)))] [AV.str [], AV.str [], AV.nili] Bool.false)),
(104, (TI.mk Bool.false 1 8 TK.func [] [AV.nilf] Bool.false)),
(105, (TI.mk Bool.true 24 24 (TK.array 24 5) [] [AV.int IntKind.u8 0, AV.int IntKind.u8 0, AV.int IntKind.u8 0, AV.int IntKind.u8 0, AV.int IntKind.u8 0, AV.int IntKind.u8 0, AV.int IntKind.u8 0, AV.int IntKind.u8 0, AV.int IntKind.u8 0, AV.int IntKind.u8 0, AV.int IntKind.u8 0, AV.int IntKind.u8 0, AV.int IntKind.u8 0, AV.int IntKind.u8 0, AV.int IntKind.u8 0, AV.int IntKind.u8 0, AV.int IntKind.u8 0, AV.int IntKind.u8 0, AV.int IntKind.u8 0, AV.int IntKind.u8 0, AV.int IntKind.u8 0, AV.int IntKind.u8 0, AV.int IntKind.u8 0, AV.int IntKind.u8 0] Bool.false)),
(106, (TI.mk Bool.false 1 8 TK.func [] [AV.nilf] Bool.false)),
(107, (TI.mk Bool.false 1 0 TK.other [] [AV.any] Bool.false)),
(108, (TI.mk Bool.false 1 8 TK.func [] [AV.nilf] Bool.false)),
(109, (TI.mk Bool.false 1 8 (TK.int IntKind.u64) [] [AV.int IntKind.u64 0] Bool.false)),
(110, (TI.mk Bool.false 1 8 TK.func [] [AV.nilf] Bool.false)),
(111, (TI.mk Bool.false 1 8 TK.func [] [AV.nilf] Bool.false)),
(112, (TI.mk Bool.false 1 8 TK.func [] [AV.nilf] Bool.false)),
(113, (TI.mk Bool.false 1 8 TK.ptr [] [AV.nilp] Bool.false)),
(114, (TI.mk Bool.false 1 8 TK.func [] [AV.nilf] Bool.false)),
(115, (TI.mk Bool.false 1 8 TK.func [] [AV.nilf] Bool.false)),
(116, (TI.mk Bool.false 1 8 TK.func [] [AV.nilf] Bool.false)),
(117, (TI.mk Bool.false 1 8 TK.func [] [AV.nilf] Bool.false)),
(118, (TI.mk Bool.false 1 8 TK.ptr [] [AV.nilp] Bool.false)),
(119, (TI.mk Bool.false 1 8 TK.ptr [] [AV.nilp] Bool.false)),
(120, (TI.mk Bool.true 1 16 TK.struct [(0, ((9, Bool.true)))] [AV.str []] Bool.true)),
(121, (TI.mk Bool.true 1 16 TK.struct [(0, ((9, Bool.true)))] [AV.str []] Bool.true)),
(122, (TI.mk Bool.false 1 8 TK.func [] [AV.nilf] Bool.false)),
(123, (TI.mk Bool.true 20 160 (TK.array 20 94) [] [AV.int IntKind.u64 0, AV.int IntKind.u64 0, AV.int IntKind.u64 0, AV.int IntKind.u64 0, AV.int IntKind.u64 0, AV.int IntKind.u64 0, AV.int IntKind.u64 0, AV.int IntKind.u64 0, AV.int IntKind.u64 0, AV.int IntKind.u64 0, AV.int IntKind.u64 0, AV.int IntKind.u64 0, AV.int IntKind.u64 0, AV.int IntKind.u64 0, AV.int IntKind.u64 0, AV.int IntKind.u64 0, AV.int IntKind.u64 0, AV.int IntKind.u64 0, AV.int IntKind.u64 0, AV.int IntKind.u64 0] Bool.false)),
(124, (TI.mk Bool.true 65 65 (TK.array 65 5) [] [AV.int IntKind.u8 0, AV.int IntKind.u8 0, AV.int IntKind.u8 0, AV.int IntKind.u8 0, AV.int IntKind.u8 0, AV.int IntKind.u8 0, AV.int IntKind.u8 0, AV.int IntKind.u8 0, AV.int IntKind.u8 0, AV.int IntKind.u8 0, AV.int IntKind.u8 0, AV.int IntKind.u8 0, AV.int IntKind.u8 0, AV.int IntKind.u8 0, AV.int IntKind.u8 0, AV.int IntKind.u8 0, AV.int IntKind.u8 0, AV.int IntKind.u8 0, AV.int IntKind.u8 0, AV.int IntKind.u8 0, AV.int IntKind.u8 0, AV.int IntKind.u8 0, AV.int IntKind.u8 0, AV.int IntKind.u8 0, AV.int IntKind.u8 0, AV.int IntKind.u8 0, AV.int IntKind.u8 0, AV.int IntKind.u8 0, AV.int IntKind.u8 0, AV.int IntKind.u8 0, AV.int IntKind.u8 0, AV.int IntKind.u8 0, AV.int IntKind.u8 0, AV.int IntKind.u8 0, AV.int IntKind.u8 0, AV.int IntKind.u8 0, AV.int IntKind.u8 0, AV.int IntKind.u8 0, AV.int IntKind.u8 0, AV.int IntKind.u8 0, AV.int IntKind.u8 0, AV.int IntKind.u8 0, AV.int IntKind.u8 0, AV.int IntKind.u8 0, AV.int IntKind.u8 0, AV.int IntKind.u8 0, AV.int IntKind.u8 0, AV.int IntKind.u8 0, AV.int IntKind.u8 0, AV.int IntKind.u8 0, AV.int IntKind.u8 0, AV.int IntKind.u8 0, AV.int IntKind.u8 0, AV.int IntKind.u8 0, AV.int IntKind.u8 0, AV.int IntKind.u8 0, AV.int IntKind.u8 0, AV.int IntKind.u8 0, AV.int IntKind.u8 0, AV.int IntKind.u8 0, AV.int IntKind.u8 0, AV.int IntKind.u8 0, AV.int IntKind.u8 0, AV.int IntKind.u8 0, AV.int IntKind.u8 0] Bool.false)),
(125, (TI.mk Bool.false 1 8 TK.ptr [] [AV.nilp] Bool.false)),
(126, (TI.mk Bool.false 1 0 TK.other [] [AV.any] Bool.false)),
(127, (TI.mk Bool.false 1 8 TK.func [] [AV.nilf] Bool.false)),
(128, (TI.mk Bool.true 256 256 (TK.array 256 5) [] [AV.int IntKind.u8 0, AV.int IntKind.u8 0, AV.int IntKind.u8 0, AV.int IntKind.u8 0, AV.int IntKind.u8 0, AV.int IntKind.u8 0, AV.int IntKind.u8 0, AV.int IntKind.u8 0, AV.int IntKind.u8 0, AV.int IntKind.u8 0, AV.int IntKind.u8 0, AV.int IntKind.u8 0, AV.int IntKind.u8 0, AV.int IntKind.u8 0, AV.int IntKind.u8 0, AV.int IntKind.u8 0, AV.int IntKind.u8 0, AV.int IntKind.u8 0, AV.int IntKind.u8 0, AV.int IntKind.u8 0, AV.int IntKind.u8 0, AV.int IntKind.u8 0, AV.int IntKind.u8 0, AV.int IntKind.u8 0, AV.int IntKind.u8 0, AV.int IntKind.u8 0, AV.int IntKind.u8 0, AV.int IntKind.u8 0, AV.int IntKind.u8 0, AV.int IntKind.u8 0, AV.int IntKind.u8 0, AV.int IntKind.u8 0, AV.int IntKind.u8 0, AV.int IntKind.u8 0, AV.int IntKind.u8 0, AV.int IntKind.u8 0, AV.int IntKind.u8 0, AV.int IntKind.u8 0, AV.int IntKind.u8 0, AV.int IntKind.u8 0, AV.int IntKind.u8 0, AV.int IntKind.u8 0, AV.int IntKind.u8 0, AV.int IntKind.u8 0, AV.int IntKind.u8 0, AV.int IntKind.u8 0, AV.int IntKind.u8 0, AV.int IntKind.u8 0, AV.int IntKind.u8 0, AV.int IntKind.u8 0, AV.int IntKind.u8 0, AV.int IntKind.u8 0, AV.int IntKind.u8 0, AV.int IntKind.u8 0, AV.int IntKind.u8 0, AV.int IntKind.u8 0, AV.int IntKind.u8 0, AV.int IntKind.u8 0, AV.int IntKind.u8 0, AV.int IntKind.u8 0, AV.int IntKind.u8 0, AV.int IntKind.u8 0, AV.int IntKind.u8 0, AV.int IntKind.u8 0, AV.int IntKind.u8 0, AV.int IntKind.u8 0, AV.int IntKind.u8 0, AV.int IntKind.u8 0, AV.int IntKind.u8 0, AV.int IntKind.u8 0, AV.int IntKind.u8 0, AV.int IntKind.u8 0, AV.int IntKind.u8 0, AV.int IntKind.u8 0, AV.int IntKind.u8 0, AV.int IntKind.u8 0, AV.int IntKind.u8 0, AV.int IntKind.u8 0, AV.int IntKind.u8 0, AV.int IntKind.u8 0, AV.int IntKind.u8 0, AV.int IntKind.u8 0, AV.int IntKind.u8 0, AV.int IntKind.u8 0, AV.int IntKind.u8 0, AV.int IntKind.u8 0, AV.int IntKind.u8 0, AV.int IntKind.u8 0, AV.int IntKind.u8 0, AV.int IntKind.u8 0, AV.int IntKind.u8 0, AV.int IntKind.u8 0, AV.int IntKind.u8 0, AV.int IntKind.u8 0, AV.int IntKind.u8 0, AV.int IntKind.u8 0, AV.int IntKind.u8 0, AV.int IntKind.u8 0, AV.int IntKind.u8 0, AV.int IntKind.u8 0, AV.int IntKind.u8 0, AV.int IntKind.u8 0, AV.int IntKind.u8 0, AV.int IntKind.u8 0, AV.int IntKind.u8 0, AV.int IntKind.u8 0, AV.int IntKind.u8 0, AV.int IntKind.u8 0, AV.int IntKind.u8 0, AV.int IntKind.u8 0, AV.int IntKind.u8 0, AV.int IntKind.u8 0, AV.int IntKind.u8 0, AV.int IntKind.u8 0, AV.int IntKind.u8 0, AV.int IntKind.u8 0, AV.int IntKind.u8 0, AV.int IntKind.u8 0, AV.int IntKind.u8 0, AV.int IntKind.u8 0, AV.int IntKind.u8 0, AV.int IntKind.u8 0, AV.int IntKind.u8 0, AV.int IntKind.u8 0, AV.int IntKind.u8 0, AV.int IntKind.u8 0, AV.int IntKind.u8 0, AV.int IntKind.u8 0, AV.int IntKind.u8 0, AV.int IntKind.u8 0, AV.int IntKind.u8 0, AV.int IntKind.u8 0, AV.int IntKind.u8 0, AV.int IntKind.u8 0, AV.int IntKind.u8 0, AV.int IntKind.u8 0, AV.int IntKind.u8 0, AV.int IntKind.u8 0, AV.int IntKind.u8 0, AV.int IntKind.u8 0, AV.int IntKind.u8 0, AV.int IntKind.u8 0, AV.int IntKind.u8 0, AV.int IntKind.u8 0, AV.int IntKind.u8 0, AV.int IntKind.u8 0, AV.int IntKind.u8 0, AV.int IntKind.u8 0, AV.int IntKind.u8 0, AV.int IntKind.u8 0, AV.int IntKind.u8 0, AV.int IntKind.u8 0, AV.int IntKind.u8 0, AV.int IntKind.u8 0, AV.int IntKind.u8 0, AV.int IntKind.u8 0, AV.int IntKind.u8 0, AV.int IntKind.u8 0, AV.int IntKind.u8 0, AV.int IntKind.u8 0, AV.int IntKind.u8 0, AV.int IntKind.u8 0, AV.int IntKind.u8 0, AV.int IntKind.u8 0, AV.int IntKind.u8 0, AV.int IntKind.u8 0, AV.int IntKind.u8 0, AV.int IntKind.u8 0, AV.int IntKind.u8 0, AV.int IntKind.u8 0, AV.int IntKind.u8 0, AV.int IntKind.u8 0, AV.int IntKind.u8 0, AV.int IntKind.u8 0, AV.int IntKind.u8 0, AV.int IntKind.u8 0, AV.int IntKind.u8 0, AV.int IntKind.u8 0, AV.int IntKind.u8 0, AV.int IntKind.u8 0, AV.int IntKind.u8 0, AV.int IntKind.u8 0, AV.int IntKind.u8 0, AV.int IntKind.u8 0, AV.int IntKind.u8 0, AV.int IntKind.u8 0, AV.int IntKind.u8 0, AV.int IntKind.u8 0, AV.int IntKind.u8 0, AV.int IntKind.u8 0, AV.int IntKind.u8 0, AV.int IntKind.u8 0, AV.int IntKind.u8 0, AV.int IntKind.u8 0, AV.int IntKind.u8 0, AV.int IntKind.u8 0, AV.int IntKind.u8 0, AV.int IntKind.u8 0, AV.int IntKind.u8 0, AV.int IntKind.u8 0, AV.int IntKind.u8 0, AV.int IntKind.u8 0, AV.int IntKind.u8 0, AV.int IntKind.u8 0, AV.int IntKind.u8 0, AV.int IntKind.u8 0, AV.int IntKind.u8 0, AV.int IntKind.u8 0, AV.int IntKind.u8 0, AV.int IntKind.u8 0, AV.int IntKind.u8 0, AV.int IntKind.u8 0, AV.int IntKind.u8 0, AV.int IntKind.u8 0, AV.int IntKind.u8 0, AV.int IntKind.u8 0, AV.int IntKind.u8 0, AV.int IntKind.u8 0, AV.int IntKind.u8 0, AV.int IntKind.u8 0, AV.int IntKind.u8 0, AV.int IntKind.u8 0, AV.int IntKind.u8 0, AV.int IntKind.u8 0, AV.int IntKind.u8 0, AV.int IntKind.u8 0, AV.int IntKind.u8 0, AV.int IntKind.u8 0, AV.int IntKind.u8 0, AV.int IntKind.u8 0, AV.int IntKind.u8 0, AV.int IntKind.u8 0, AV.int IntKind.u8 0, AV.int IntKind.u8 0, AV.int IntKind.u8 0, AV.int IntKind.u8 0, AV.int IntKind.u8 0, AV.int IntKind.u8 0, AV.int IntKind.u8 0, AV.int IntKind.u8 0, AV.int IntKind.u8 0, AV.int IntKind.u8 0, AV.int IntKind.u8 0, AV.int IntKind.u8 0, AV.int IntKind.u8 0, AV.int IntKind.u8 0, AV.int IntKind.u8 0, AV.int IntKind.u8 0, AV.int IntKind.u8 0, AV.int IntKind.u8 0, AV.int IntKind.u8 0, AV.int IntKind.u8 0, AV.int IntKind.u8 0, AV.int IntKind.u8 0, AV.int IntKind.u8 0, AV.int IntKind.u8 0] Bool.false)),
(129, (TI.mk Bool.true 2 2 TK.struct [(0, ((5, Bool.true))), (1, ((5, Bool.true)))] [AV.int IntKind.u8 0, AV.int IntKind.u8 0] Bool.true)),
(130, (TI.mk Bool.true 2 2 TK.struct [(0, ((5, Bool.true))), (1, ((5, Bool.true)))] [AV.int IntKind.u8 0, AV.int IntKind.u8 0] Bool.true)),
(131, (TI.mk Bool.true 32 32 (TK.array 16 130) [] [AV.int IntKind.u8 0, AV.int IntKind.u8 0, AV.int IntKind.u8 0, AV.int IntKind.u8 0, AV.int IntKind.u8 0, AV.int IntKind.u8 0, AV.int IntKind.u8 0, AV.int IntKind.u8 0, AV.int IntKind.u8 0, AV.int IntKind.u8 0, AV.int IntKind.u8 0, AV.int IntKind.u8 0, AV.int IntKind.u8 0, AV.int IntKind.u8 0, AV.int IntKind.u8 0, AV.int IntKind.u8 0, AV.int IntKind.u8 0, AV.int IntKind.u8 0, AV.int IntKind.u8 0, AV.int IntKind.u8 0, AV.int IntKind.u8 0, AV.int IntKind.u8 0, AV.int IntKind.u8 0, AV.int IntKind.u8 0, AV.int IntKind.u8 0, AV.int IntKind.u8 0, AV.int IntKind.u8 0, AV.int IntKind.u8 0, AV.int IntKind.u8 0, AV.int IntKind.u8 0, AV.int IntKind.u8 0, AV.int IntKind.u8 0] Bool.false)),
(132, (TI.mk Bool.false 1 0 TK.other [] [AV.any] Bool.false)),
(133, (TI.mk Bool.false 1 8 TK.func [] [AV.nilf] Bool.false)),
(134, (TI.mk Bool.true 32 32 (TK.array 32 5) [] [AV.int IntKind.u8 0, AV.int IntKind.u8 0, AV.int IntKind.u8 0, AV.int IntKind.u8 0, AV.int IntKind.u8 0, AV.int IntKind.u8 0, AV.int IntKind.u8 0, AV.int IntKind.u8 0, AV.int IntKind.u8 0, AV.int IntKind.u8 0, AV.int IntKind.u8 0, AV.int IntKind.u8 0, AV.int IntKind.u8 0, AV.int IntKind.u8 0, AV.int IntKind.u8 0, AV.int IntKind.u8 0, AV.int IntKind.u8 0, AV.int IntKind.u8 0, AV.int IntKind.u8 0, AV.int IntKind.u8 0, AV.int IntKind.u8 0, AV.int IntKind.u8 0, AV.int IntKind.u8 0, AV.int IntKind.u8 0, AV.int IntKind.u8 0, AV.int IntKind.u8 0, AV.int IntKind.u8 0, AV.int IntKind.u8 0, AV.int IntKind.u8 0, AV.int IntKind.u8 0, AV.int IntKind.u8 0, AV.int IntKind.u8 0] Bool.false)),
(135, (TI.mk Bool.true 64 64 (TK.array 64 5) [] [AV.int IntKind.u8 0, AV.int IntKind.u8 0, AV.int IntKind.u8 0, AV.int IntKind.u8 0, AV.int IntKind.u8 0, AV.int IntKind.u8 0, AV.int IntKind.u8 0, AV.int IntKind.u8 0, AV.int IntKind.u8 0, AV.int IntKind.u8 0, AV.int IntKind.u8 0, AV.int IntKind.u8 0, AV.int IntKind.u8 0, AV.int IntKind.u8 0, AV.int IntKind.u8 0, AV.int IntKind.u8 0, AV.int IntKind.u8 0, AV.int IntKind.u8 0, AV.int IntKind.u8 0, AV.int IntKind.u8 0, AV.int IntKind.u8 0, AV.int IntKind.u8 0, AV.int IntKind.u8 0, AV.int IntKind.u8 0, AV.int IntKind.u8 0, AV.int IntKind.u8 0, AV.int IntKind.u8 0, AV.int IntKind.u8 0, AV.int IntKind.u8 0, AV.int IntKind.u8 0, AV.int IntKind.u8 0, AV.int IntKind.u8 0, AV.int IntKind.u8 0, AV.int IntKind.u8 0, AV.int IntKind.u8 0, AV.int IntKind.u8 0, AV.int IntKind.u8 0, AV.int IntKind.u8 0, AV.int IntKind.u8 0, AV.int IntKind.u8 0, AV.int IntKind.u8 0, AV.int IntKind.u8 0, AV.int IntKind.u8 0, AV.int IntKind.u8 0, AV.int IntKind.u8 0, AV.int IntKind.u8 0, AV.int IntKind.u8 0, AV.int IntKind.u8 0, AV.int IntKind.u8 0, AV.int IntKind.u8 0, AV.int IntKind.u8 0, AV.int IntKind.u8 0, AV.int IntKind.u8 0, AV.int IntKind.u8 0, AV.int IntKind.u8 0, AV.int IntKind.u8 0, AV.int IntKind.u8 0, AV.int IntKind.u8 0, AV.int IntKind.u8 0, AV.int IntKind.u8 0, AV.int IntKind.u8 0, AV.int IntKind.u8 0, AV.int IntKind.u8 0, AV.int IntKind.u8 0] Bool.false)),
(136, (TI.mk Bool.false 1 8 TK.func [] [AV.nilf] Bool.false)),
(137, (TI.mk Bool.true 4 40 TK.struct [(0, ((17, Bool.true))), (1, ((17, Bool.true))), (2, ((17, Bool.true))), (3, ((9, Bool.true)))] [AV.nilp, AV.nilp, AV.nilp, AV.str []] Bool.false)),
(138, (TI.mk Bool.true 4 40 TK.struct [(0, ((17, Bool.true))), (1, ((17, Bool.true))), (2, ((17, Bool.true))), (3, ((9, Bool.true)))] [AV.nilp, AV.nilp, AV.nilp, AV.str []] Bool.false)),
(139, (TI.mk Bool.true 0 0 (TK.array 0 16) [] [] Bool.false)),
(140, (TI.mk Bool.true 0 0 TK.struct [(0, ((139, Bool.false)))] [] Bool.false)),
(141, (TI.mk Bool.true 0 0 TK.struct [(0, ((139, Bool.false)))] [] Bool.false)),
(142, (TI.mk Bool.false 1 8 TK.func [] [AV.nilf] Bool.false)),
(143, (TI.mk Bool.false 1 1 (TK.int IntKind.u8) [] [AV.int IntKind.u8 0] Bool.false)),
(144, (TI.mk Bool.false 1 1 (TK.int IntKind.u8) [] [AV.int IntKind.u8 0] Bool.false)),
(145, (TI.mk Bool.false 1 8 TK.func [] [AV.nilf] Bool.false)),
(146, (TI.mk Bool.false 1 4 (TK.int IntKind.i32) [] [AV.int IntKind.i32 0] Bool.false)),
(147, (TI.mk Bool.false 1 4 (TK.int IntKind.i32) [] [AV.int IntKind.i32 0] Bool.false)),
(148, (TI.mk Bool.true 11 48 TK.struct [(0, ((12, Bool.true))), (1, ((12, Bool.true))), (2, ((92, Bool.true))), (3, ((143, Bool.true))), (4, ((5, Bool.true))), (5, ((5, Bool.true))), (6, ((144, Bool.true))), (7, ((145, Bool.true))), (8, ((118, Bool.true))), (9, ((146, Bool.true))), (10, ((147, Bool.true)))] [AV.int IntKind.u64 0, AV.int IntKind.u64 0, AV.int IntKind.u32 0, AV.int IntKind.u8 0, AV.int IntKind.u8 0, AV.int IntKind.u8 0, AV.int IntKind.u8 0, AV.nilf, AV.nilp, AV.int IntKind.i32 0, AV.int IntKind.i32 0] Bool.false)),
(149, (TI.mk Bool.true 11 48 TK.struct [(0, ((12, Bool.true))), (1, ((12, Bool.true))), (2, ((92, Bool.true))), (3, ((143, Bool.true))), (4, ((5, Bool.true))), (5, ((5, Bool.true))), (6, ((144, Bool.true))), (7, ((145, Bool.true))), (8, ((118, Bool.true))), (9, ((146, Bool.true))), (10, ((147, Bool.true)))] [AV.int IntKind.u64 0, AV.int IntKind.u64 0, AV.int IntKind.u32 0, AV.int IntKind.u8 0, AV.int IntKind.u8 0, AV.int IntKind.u8 0, AV.int IntKind.u8 0, AV.nilf, AV.nilp, AV.int IntKind.i32 0, AV.int IntKind.i32 0] Bool.false)),
(150, (TI.mk Bool.false 1 8 TK.other [] [AV.nilp] Bool.false))]
def findT : List (Nat × TI) → Nat → Option TI
  | [], _ => none
  | (k, x) :: r, t => bif Nat.beq k t then some x else findT r t
noncomputable def T : TT := findT tab
def ann3 : Ann := { kinds := [(14, .S), (16, .S), (18, .S), (20, .S)], nl := [66, 68, 72, 73, 75, 76, 81, 83, 88, 89, 98, 99, 101, 102, 107, 110, 155, 156], lw := [14, 16, 18, 20] }
def ann4 : Ann := { kinds := [(1, .S), (3, .S), (5, .S), (11, .S)], no := [36, 41, 46, 52, 58, 117, 132], nl := [78, 83, 89, 95, 101, 102, 139, 145, 149, 153], lw := [1, 3, 5, 11] }
def ann5 : Ann := { kinds := [(5, .H), (10, .S)], hl := [43, 45, 47], hb := [5], nl := [23, 43, 45, 47, 49, 53], lw := [2, 10], loops := [(0, { vals := [(5, none), (17, none), (18, none), (19, none), (3000, none), (3001, none), (3002, none)], locs := [(2, 3000, 0)], lbs := [(3000, 3)] })] }
def ann6 : Ann := { kinds := [(7, .S)], hl := [38, 47, 58, 61, 64], ha := [8], no := [8], nl := [38, 47, 58, 61, 64, 66, 75], lw := [2, 7], joins := [(1000001, { vals := [(0, none), (4, none), (5, none), (6, none), (3000, none), (3001, none), (3002, none)], locs := [(2, 3000, 0)], lbs := [(3000, 3)] })], loops := [(0, { vals := [(0, none), (4, none), (5, none), (6, none), (3000, none), (3001, none), (3002, none)], locs := [(2, 3000, 0)], lbs := [(3000, 3)] })] }
def ann7 : Ann := { kinds := [(9, .S)], nl := [15, 17, 23, 29], lw := [4, 6, 9], loops := [(0, { vals := [(1, none), (7, none), (10, none), (11, none), (12, none), (5000, none), (5001, none), (5002, none), (7000, none), (7001, none), (7002, none)], locs := [(4, 5000, 0), (6, 7000, 0)], lbs := [(5000, 3), (7000, 3)] })] }
def ann8 : Ann := { nl := [20, 30, 38], lw := [4, 6], joins := [(1000001, { vals := [(0, none), (1, none), (7, none), (8, none), (5000, none), (5001, none), (5002, none), (7000, none), (7001, none), (7002, none)], locs := [(4, 5000, 0), (6, 7000, 0)], lbs := [(5000, 3), (7000, 3)] })], loops := [(0, { vals := [(0, none), (1, none), (7, none), (8, none), (5000, none), (5001, none), (5002, none), (7000, none), (7001, none), (7002, none)], locs := [(4, 5000, 0), (6, 7000, 0)], lbs := [(5000, 3), (7000, 3)] })] }
def ann9 : Ann := { nl := [4, 6, 8, 13, 15, 17] }
def ann10 : Ann := { nl := [4, 8, 13, 18, 23, 28] }
def ann11 : Ann := { no := [20], nl := [6, 8, 11, 13, 16, 18] }
def ann12 : Ann := { nl := [6, 8, 11, 13, 16, 18, 21, 23, 26, 28] }
def ann13 : Ann := { nl := [3, 7, 11, 16], ords := [(3, [0, 1, 4, 5, 9, 10, 2, 3, 6, 7, 8, 11, 12, 13])] }
def ann14 : Ann := { nl := [3, 7, 11, 16] }
def ann15 : Ann := { nl := [6, 10, 15, 16, 22, 24, 28, 30] }
def ann16 : Ann := { nl := [5, 9, 14, 15, 20, 22, 25, 27] }
def ann17 : Ann := {  }
def ann18 : Ann := { nl := [16, 17, 21, 26], loops := [(0, { vals := [(0, none), (3, none), (5, none)] })] }
def ann19 : Ann := { nl := [20, 24], loops := [(0, { vals := [(0, none), (1, none), (5, none)] })] }
def ann20 : Ann := { kinds := [(6, .S)], hl := [18, 31, 39], ha := [53], hb := [4], no := [52], nl := [18, 26, 31, 39, 41, 47, 51], lw := [6], loops := [(0, { vals := [(4, none), (13, none), (14, none), (15, none)] })] }
def ann21 : Ann := {  }
def ann22 : Ann := { no := [7] }
def ann23 : Ann := { hl := [40], ha := [69], hb := [8], no := [68], nl := [27, 40, 44, 54, 61, 66], joins := [(1000001, { vals := [(0, none), (1, none), (2, none), (7, none), (8, none), (9, none)] })], loops := [(0, { vals := [(0, none), (1, none), (2, none), (7, none), (8, none), (9, none)] })] }
def ann24 : Ann := { kinds := [(7, .S), (9, .S)], no := [34], nl := [15, 21, 24, 26, 29, 31], lw := [7, 9], loops := [(0, { vals := [(1, none), (5, some 6), (10, none), (11, none), (12, none)] }), (2, { vals := [(1, none), (5, some 6), (7, none), (10, none), (11, none), (12, none), (16, none), (17, none), (18, none)] })] }
def ann25 : Ann := { kinds := [(7, .S), (10, .S)], no := [43], nl := [19, 25, 28, 30, 32, 36, 38, 41], lw := [7, 10], loops := [(0, { vals := [(5, none), (14, none), (15, none), (16, none)] }), (2, { vals := [(7, none), (8, some 6), (14, none), (15, none), (16, none), (20, none), (21, none), (22, none)] })] }
def ann26 : Ann := { nl := [5, 6], lw := [4] }
def ann27 : Ann := { lw := [6] }
def ann31 : Ann := { nl := [11], loops := [(0, { vals := [(3, none), (6, none), (7, none), (8, none)] })] }
def ann32 : Ann := {  }
def ann33 : Ann := {  }
def ann34 : Ann := {  }
def ann35 : Ann := {  }
def ann36 : Ann := { nl := [4, 5] }
def ann37 : Ann := { nl := [6, 7, 11, 13] }
def ann38 : Ann := { iso := false, kinds := [(7, .S)], hl := [25], nl := [25, 27, 32], lw := [7], joins := [(1000001, { vals := [(0, none), (1, none), (5, none), (6, none)] })], loops := [(0, { vals := [(0, none), (1, none), (5, none), (6, none)] })] }
def ann39 : Ann := { iso := false, ha := [7] }
def ann40 : Ann := { nl := [4, 6] }
def ann41 : Ann := { iso := false }
def ann42 : Ann := { nl := [6, 8] }
def ann43 : Ann := { hb := [24], nl := [14, 30], loops := [(0, { vals := [(0, none), (3, none), (9, none), (10, none), (11, none)] }), (2, { vals := [(6, some 6), (25, none), (26, none), (27, none)] })] }
def ann44 : Ann := { hl := [46, 61, 70], ha := [75], hb := [5, 73], nl := [28, 37, 46, 61], lw := [8], joins := [(31, { vals := [(5, none), (6, none), (7, none), (9000, none), (9001, none), (9002, none)], locs := [(8, 9000, 0)], lbs := [(9000, 3)] }), (1000001, { vals := [(5, none), (6, none), (7, none)] })], loops := [(0, { vals := [(5, none), (6, none), (7, none)] }), (2, { vals := [(5, none), (6, none), (7, none), (9, none), (9000, none), (9001, none), (9002, none)], locs := [(8, 9000, 0)], lbs := [(9000, 3)] })] }
def ann45 : Ann := { nl := [12, 15] }
def ann46 : Ann := { nl := [5, 6, 9, 10], lw := [4] }
def ann47 : Ann := { nl := [5, 6, 9, 10], lw := [4] }
def ann52 : Ann := {  }
def ann53 : Ann := { iso := false, hl := [15], nl := [15], loops := [(0, { vals := [(0, none), (1, none), (7, none), (8, none)] })] }
def ann54 : Ann := { iso := false, hl := [89, 93], nl := [89, 93], joins := [(39, { vals := [(0, none), (1, none), (2, none), (3, none), (4, none), (10, none), (11, none), (12, none)] }), (56, { vals := [(0, none), (1, none), (2, none), (3, none), (4, none), (10, none), (11, none), (12, none), (13, none), (14, none)] }), (75, { vals := [(0, none), (1, none), (2, none), (3, none), (4, none), (10, none), (11, none), (12, none), (13, none)] })], loops := [(0, { vals := [(0, none), (1, none), (2, none), (3, none), (4, none), (10, none), (11, none)] })] }
def ann55 : Ann := {  }
def ann66 : Ann := { iso := false, hl := [26, 31, 46, 50], nl := [26, 31, 46, 50], loops := [(0, { vals := [(0, none), (1, none), (2, none), (3, none), (8, none)] }), (2, { vals := [(0, none), (1, none), (2, none), (3, none), (8, none), (9, none)] })] }
def ann74 : Ann := { joins := [(4, { vals := [(0, none), (2, none)] }), (8, { vals := [(0, none), (2, none)] })] }
def ann75 : Ann := { joins := [(4, { vals := [(0, none), (2, none)] }), (8, { vals := [(0, none), (2, none)] }), (14, { vals := [(0, none), (2, none)] })] }
noncomputable def tabF : List (Nat × (Func × Ann)) := [
(3, (Tryz.f3, ann3)),
(4, (Tryz.f4, ann4)),
(5, (Tryz.f5, ann5)),
(6, (Tryz.f6, ann6)),
(7, (Tryz.f7, ann7)),
(8, (Tryz.f8, ann8)),
(9, (Tryz.f9, ann9)),
(10, (Tryz.f10, ann10)),
(11, (Tryz.f11, ann11)),
(12, (Tryz.f12, ann12)),
(13, (Tryz.f13, ann13)),
(14, (Tryz.f14, ann14)),
(15, (Tryz.f15, ann15)),
(16, (Tryz.f16, ann16)),
(17, (Tryz.f17, ann17)),
(18, (Tryz.f18, ann18)),
(19, (Tryz.f19, ann19)),
(20, (Tryz.f20, ann20)),
(21, (Tryz.f21, ann21)),
(22, (Tryz.f22, ann22)),
(23, (Tryz.f23, ann23)),
(24, (Tryz.f24, ann24)),
(25, (Tryz.f25, ann25)),
(26, (Tryz.f26, ann26)),
(27, (Tryz.f27, ann27)),
(31, (Tryz.f31, ann31)),
(32, (Tryz.f32, ann32)),
(33, (Tryz.f33, ann33)),
(34, (Tryz.f34, ann34)),
(35, (Tryz.f35, ann35)),
(36, (Tryz.f36, ann36)),
(37, (Tryz.f37, ann37)),
(38, (Tryz.f38, ann38)),
(40, (Tryz.f40, ann40)),
(41, (Tryz.f41, ann41)),
(42, (Tryz.f42, ann42)),
(43, (Tryz.f43, ann43)),
(44, (Tryz.f44, ann44)),
(45, (Tryz.f45, ann45)),
(46, (Tryz.f46, ann46)),
(47, (Tryz.f47, ann47)),
(52, (Tryz.f52, ann52)),
(53, (Tryz.f53, ann53)),
(54, (Tryz.f54, ann54)),
(55, (Tryz.f55, ann55)),
(66, (Tryz.f66, ann66)),
(74, (Tryz.f74, ann74)),
(75, (Tryz.f75, ann75))]
def findF : List (Nat × (Func × Ann)) → Nat → Option (Func × Ann)
  | [], _ => none
  | (k, x) :: r, t => bif Nat.beq k t then some x else findF r t
def own : FuncId → Option Nat := fun f => bif Nat.beq f 56 then some 6 else none
noncomputable def other : FuncId → Option ((FuncId → List AV → M AV) → List AV → M AV) := fun f =>
  bif Nat.beq f 28 then some (splitE) else bif Nat.beq f 29 then some (atoiE 79) else bif Nat.beq f 30 then some (itoaE) else bif Nat.beq f 39 then some (cloneH T 24) else bif Nat.beq f 56 then some (failE) else bif Nat.beq f 67 then some (failE) else bif Nat.beq f 68 then some (failE) else bif Nat.beq f 69 then some (failE) else bif Nat.beq f 70 then some (failE) else bif Nat.beq f 71 then some (failE) else bif Nat.beq f 72 then some (failE) else bif Nat.beq f 73 then some (failE) else none
noncomputable def pg : Pg := { T := T, funcs := findF tabF, own := own, other := other, nw := fun f => bif Nat.beq f 39 then true else false }
theorem hOther : OtherLim pg := by
  intro f E hE call calls hc
  have h0 : other f = some E := hE
  unfold other at h0
  rcases other_bif h0 with rfl | h0
  · exact LimF.const _
  rcases other_bif h0 with rfl | h0
  · exact LimF.const _
  rcases other_bif h0 with rfl | h0
  · exact LimF.const _
  rcases other_bif h0 with rfl | h0
  · exact cloneH_lim _ _ _ _
  rcases other_bif h0 with rfl | h0
  · exact LimF.const _
  rcases other_bif h0 with rfl | h0
  · exact LimF.const _
  rcases other_bif h0 with rfl | h0
  · exact LimF.const _
  rcases other_bif h0 with rfl | h0
  · exact LimF.const _
  rcases other_bif h0 with rfl | h0
  · exact LimF.const _
  rcases other_bif h0 with rfl | h0
  · exact LimF.const _
  rcases other_bif h0 with rfl | h0
  · exact LimF.const _
  rcases other_bif h0 with rfl | h0
  · exact LimF.const _
  cases h0
end Go.Proofs.YtllapohmppeceaaGreatDoor
