/- Annotations of the functions, the table of types, the program of the abstract evaluator: written by a program. No condition. -/
import Derived.Test.YtllapohmppeceaaDoorLg
import Derived.Test.YtllapohmppeceaaDoorProg
namespace Go.Proofs.YtllapohmppeceaaDoor
open Go Go.Av
noncomputable def tab : List (Nat × TI) := [
(0, (TI.mk Bool.false 1 0 TK.other [] [AV.any] Bool.false)),
(1, (TI.mk Bool.false 1 8 TK.func [] [AV.nilf] Bool.false)),
(2, (TI.mk Bool.false 1 8 (TK.int IntKind.i64) [] [AV.int IntKind.i64 0] Bool.false)),
(3, (TI.mk Bool.false 1 8 (TK.int IntKind.i64) [] [AV.int IntKind.i64 0] Bool.false)),
(4, (TI.mk Bool.false 1 1 TK.bool [] [AV.bool Bool.false] Bool.false)),
(5, (TI.mk Bool.false 1 1 (TK.int IntKind.u8) [] [AV.int IntKind.u8 0] Bool.false)),
(6, (TI.mk Bool.false 1 1 (TK.int IntKind.u8) [] [AV.int IntKind.u8 0] Bool.false)),
(7, (TI.mk Bool.true 4 24 TK.struct [(0, ((2, Bool.true))), (1, ((3, Bool.true))), (2, ((4, Bool.true))), (3, ((6, Bool.true)))] [AV.int IntKind.i64 0, AV.int IntKind.i64 0, AV.bool Bool.false, AV.int IntKind.u8 0] Bool.true)),
(8, (TI.mk Bool.true 4 24 TK.struct [(0, ((2, Bool.true))), (1, ((3, Bool.true))), (2, ((4, Bool.true))), (3, ((6, Bool.true)))] [AV.int IntKind.i64 0, AV.int IntKind.i64 0, AV.bool Bool.false, AV.int IntKind.u8 0] Bool.true)),
(9, (TI.mk Bool.false 1 16 TK.str [] [AV.str []] Bool.false)),
(10, (TI.mk Bool.false 1 16 TK.str [] [AV.str []] Bool.false)),
(11, (TI.mk Bool.false 1 16 TK.str [] [AV.str []] Bool.false)),
(12, (TI.mk Bool.false 1 8 (TK.int IntKind.u64) [] [AV.int IntKind.u64 0] Bool.false)),
(13, (TI.mk Bool.true 2 24 TK.struct [(0, ((9, Bool.true))), (1, ((12, Bool.true)))] [AV.str [], AV.int IntKind.u64 0] Bool.false)),
(14, (TI.mk Bool.true 2 24 TK.struct [(0, ((9, Bool.true))), (1, ((12, Bool.true)))] [AV.str [], AV.int IntKind.u64 0] Bool.false)),
(15, (TI.mk Bool.false 1 8 TK.ptr [] [AV.nilp] Bool.false)),
(16, (TI.mk Bool.false 1 8 TK.ptr [] [AV.nilp] Bool.false)),
(17, (TI.mk Bool.false 1 8 TK.ptr [] [AV.nilp] Bool.false)),
(18, (TI.mk Bool.true 1 8 TK.struct [(0, ((17, Bool.true)))] [AV.nilp] Bool.false)),
(19, (TI.mk Bool.true 1 8 TK.struct [(0, ((17, Bool.true)))] [AV.nilp] Bool.false)),
(20, (TI.mk Bool.false 1 16 TK.iface [] [AV.nili] Bool.false)),
(21, (TI.mk Bool.false 1 4 (TK.int IntKind.i32) [] [AV.int IntKind.i32 0] Bool.false)),
(22, (TI.mk Bool.true 3 24 TK.struct [(0, ((3, Bool.true))), (1, ((3, Bool.true))), (2, ((3, Bool.true)))] [AV.int IntKind.i64 0, AV.int IntKind.i64 0, AV.int IntKind.i64 0] Bool.true)),
(23, (TI.mk Bool.true 3 24 TK.struct [(0, ((3, Bool.true))), (1, ((3, Bool.true))), (2, ((3, Bool.true)))] [AV.int IntKind.i64 0, AV.int IntKind.i64 0, AV.int IntKind.i64 0] Bool.true)),
(24, (TI.mk Bool.false 1 8 TK.func [] [AV.nilf] Bool.false)),
(25, (TI.mk Bool.false 1 8 TK.func [] [AV.nilf] Bool.false)),
(26, (TI.mk Bool.false 1 0 TK.other [] [AV.any] Bool.false)),
(27, (TI.mk Bool.false 1 8 TK.func [] [AV.nilf] Bool.false)),
(28, (TI.mk Bool.false 1 8 TK.func [] [AV.nilf] Bool.false)),
(29, (TI.mk Bool.false 1 8 TK.func [] [AV.nilf] Bool.false)),
(30, (TI.mk Bool.false 1 8 TK.func [] [AV.nilf] Bool.false)),
(31, (TI.mk Bool.false 1 8 TK.func [] [AV.nilf] Bool.false)),
(32, (TI.mk Bool.false 1 24 (TK.slice 38) [] [AV.sl []] Bool.false)),
(33, (TI.mk Bool.false 1 8 TK.func [] [AV.nilf] Bool.false)),
(34, (TI.mk Bool.false 1 8 TK.func [] [AV.nilf] Bool.false)),
(35, (TI.mk Bool.false 1 8 TK.func [] [AV.nilf] Bool.false)),
(36, (TI.mk Bool.false 1 8 TK.func [] [AV.nilf] Bool.false)),
(37, (TI.mk Bool.true 6 48 TK.struct [(0, ((23, Bool.true))), (3, ((23, Bool.true)))] [AV.int IntKind.i64 0, AV.int IntKind.i64 0, AV.int IntKind.i64 0, AV.int IntKind.i64 0, AV.int IntKind.i64 0, AV.int IntKind.i64 0] Bool.true)),
(38, (TI.mk Bool.true 6 48 TK.struct [(0, ((23, Bool.true))), (3, ((23, Bool.true)))] [AV.int IntKind.i64 0, AV.int IntKind.i64 0, AV.int IntKind.i64 0, AV.int IntKind.i64 0, AV.int IntKind.i64 0, AV.int IntKind.i64 0] Bool.true)),
(39, (TI.mk Bool.false 1 8 TK.func [] [AV.nilf] Bool.false)),
(40, (TI.mk Bool.false 1 8 TK.func [] [AV.nilf] Bool.false)),
(41, (TI.mk Bool.false 1 8 TK.func [] [AV.nilf] Bool.false)),
(42, (TI.mk Bool.false 1 24 (TK.slice 23) [] [AV.sl []] Bool.false)),
(43, (TI.mk Bool.false 1 8 TK.func [] [AV.nilf] Bool.false)),
(44, (TI.mk Bool.false 1 8 TK.func [] [AV.nilf] Bool.false)),
(45, (TI.mk Bool.false 1 8 TK.func [] [AV.nilf] Bool.false)),
(46, (TI.mk Bool.false 1 8 TK.func [] [AV.nilf] Bool.false)),
(47, (TI.mk Bool.false 1 8 TK.func [] [AV.nilf] Bool.false)),
(48, (TI.mk Bool.false 1 24 (TK.slice 9) [] [AV.sl []] Bool.false)),
(49, (TI.mk Bool.false 1 8 TK.func [] [AV.nilf] Bool.false)),
(50, (TI.mk Bool.true 3 24 (TK.array 3 3) [] [AV.int IntKind.i64 0, AV.int IntKind.i64 0, AV.int IntKind.i64 0] Bool.false)),
(51, (TI.mk Bool.false 1 16 TK.iface [] [AV.nili] Bool.false)),
(52, (TI.mk Bool.false 1 16 TK.iface [] [AV.nili] Bool.false)),
(53, (TI.mk Bool.false 1 0 TK.other [] [AV.any] Bool.false)),
(54, (TI.mk Bool.false 1 8 TK.func [] [AV.nilf] Bool.false)),
(55, (TI.mk Bool.false 1 8 TK.func [] [AV.nilf] Bool.false)),
(56, (TI.mk Bool.false 1 8 TK.func [] [AV.nilf] Bool.false)),
(57, (TI.mk Bool.false 1 8 TK.func [] [AV.nilf] Bool.false)),
(58, (TI.mk Bool.false 1 8 TK.func [] [AV.nilf] Bool.false)),
(59, (TI.mk Bool.false 1 8 TK.func [] [AV.nilf] Bool.false)),
(60, (TI.mk Bool.false 1 8 TK.func [] [AV.nilf] Bool.false)),
(61, (TI.mk Bool.false 1 8 TK.func [] [AV.nilf] Bool.false)),
(62, (TI.mk Bool.false 1 8 TK.func [] [AV.nilf] Bool.false)),
(63, (TI.mk Bool.false 1 8 TK.func [] [AV.nilf] Bool.false)),
(64, (TI.mk Bool.false 1 8 TK.func [] [AV.nilf] Bool.false)),
(65, (TI.mk Bool.false 1 8 TK.func [] [AV.nilf] Bool.false)),
(66, (TI.mk Bool.false 1 8 TK.func [] [AV.nilf] Bool.false)),
(67, (TI.mk Bool.false 1 24 (TK.slice 3) [] [AV.sl []] Bool.false)),
(68, (TI.mk Bool.false 1 8 TK.func [] [AV.nilf] Bool.false)),
(69, (TI.mk Bool.false 1 8 TK.func [] [AV.nilf] Bool.false)),
(70, (TI.mk Bool.false 1 8 TK.func [] [AV.nilf] Bool.false)),
(71, (TI.mk Bool.false 1 8 TK.func [] [AV.nilf] Bool.false)),
(72, (TI.mk Bool.false 1 8 (TK.int IntKind.u64) [] [AV.int IntKind.u64 0] Bool.false)),
(73, (TI.mk Bool.false 1 24 (TK.slice 32) [] [AV.sl []] Bool.false)),
(74, (TI.mk Bool.false 1 8 TK.func [] [AV.nilf] Bool.false)),
(75, (TI.mk Bool.false 1 8 TK.func [] [AV.nilf] Bool.false)),
(76, (TI.mk Bool.false 1 8 TK.func [] [AV.nilf] Bool.false)),
(77, (TI.mk Bool.false 1 8 TK.func [] [AV.nilf] Bool.false)),
(78, (TI.mk Bool.false 1 8 (TK.int IntKind.i64) [] [AV.int IntKind.i64 0] Bool.false)),
(79, (TI.mk Bool.false 1 24 (TK.slice 5) [] [AV.sl []] Bool.false)),
(80, (TI.mk Bool.false 1 0 TK.other [] [AV.any] Bool.false)),
(81, (TI.mk Bool.false 1 8 TK.func [] [AV.nilf] Bool.false)),
(82, (TI.mk Bool.false 1 8 TK.ptr [] [AV.nilp] Bool.false)),
(83, (TI.mk Bool.false 1 8 TK.func [] [AV.nilf] Bool.false)),
(84, (TI.mk Bool.false 1 8 TK.func [] [AV.nilf] Bool.false)),
(85, (TI.mk Bool.false 1 8 TK.func [] [AV.nilf] Bool.false)),
(86, (TI.mk Bool.false 1 8 (TK.int IntKind.i64) [] [AV.int IntKind.i64 0] Bool.false)),
(87, (TI.mk Bool.false 1 0 TK.other [] [AV.any] Bool.false)),
(88, (TI.mk Bool.false 1 8 TK.func [] [AV.nilf] Bool.false)),
(89, (TI.mk Bool.false 1 8 TK.func [] [AV.nilf] Bool.false)),
(90, (TI.mk Bool.false 1 8 TK.func [] [AV.nilf] Bool.false)),
(91, (TI.mk Bool.false 1 0 TK.other [] [AV.any] Bool.false)),
(92, (TI.mk Bool.false 1 8 TK.func [] [AV.nilf] Bool.false)),
(93, (TI.mk Bool.false 1 8 TK.func [] [AV.nilf] Bool.false)),
(94, (TI.mk Bool.false 1 4 (TK.int IntKind.u32) [] [AV.int IntKind.u32 0] Bool.false)),
(95, (TI.mk Bool.false 1 8 TK.func [] [AV.nilf] Bool.false)),
(96, (TI.mk Bool.false 1 8 (TK.int IntKind.u64) [] [AV.int IntKind.u64 0] Bool.false)),
(97, (TI.mk Bool.true 24 24 (TK.array 24 5) [] [AV.int IntKind.u8 0, AV.int IntKind.u8 0, AV.int IntKind.u8 0, AV.int IntKind.u8 0, AV.int IntKind.u8 0, AV.int IntKind.u8 0, AV.int IntKind.u8 0, AV.int IntKind.u8 0, AV.int IntKind.u8 0, AV.int IntKind.u8 0, AV.int IntKind.u8 0, AV.int IntKind.u8 0, AV.int IntKind.u8 0, AV.int IntKind.u8 0, AV.int IntKind.u8 0, AV.int IntKind.u8 0, AV.int IntKind.u8 0, AV.int IntKind.u8 0, AV.int IntKind.u8 0, AV.int IntKind.u8 0, AV.int IntKind.u8 0, AV.int IntKind.u8 0, AV.int IntKind.u8 0, AV.int IntKind.u8 0] Bool.false)),
(98, (TI.mk Bool.false 1 8 TK.func [] [AV.nilf] Bool.false)),
(99, (TI.mk Bool.false 1 0 TK.other [] [AV.any] Bool.false)),
(100, (TI.mk Bool.false 1 8 TK.func [] [AV.nilf] Bool.false)),
(101, (TI.mk Bool.false 1 8 TK.func [] [AV.nilf] Bool.false)),
(102, (TI.mk Bool.false 1 0 TK.other [] [AV.any] Bool.false)),
(103, (TI.mk Bool.false 1 8 TK.func [] [AV.nilf] Bool.false)),
(104, (TI.mk Bool.false 1 8 TK.func [] [AV.nilf] Bool.false)),
(105, (TI.mk Bool.false 1 0 TK.other [] [AV.any] Bool.false)),
(106, (TI.mk Bool.false 1 8 TK.func [] [AV.nilf] Bool.false)),
(107, (TI.mk Bool.false 1 8 TK.func [] [AV.nilf] Bool.false)),
(108, (TI.mk Bool.true 3 48 TK.struct [(0, ((9, Bool.true))), (1, ((9, Bool.true))), (2, ((52, Bool.true)))] [AV.str [], AV.str [], AV.nili] Bool.false)),
(109, (TI.mk Bool.true 3 48 TK.struct [(0, ((9, Bool.true))), (1, ((9, Bool.true))), (2, ((52, Bool.true)))] [AV.str [], AV.str [], AV.nili] Bool.false)),
(110, (TI.mk Bool.false 1 8 TK.func [] [AV.nilf] Bool.false)),
(111, (TI.mk Bool.false 1 8 (TK.int IntKind.u64) [] [AV.int IntKind.u64 0] Bool.false)),
(112, (TI.mk Bool.false 1 8 TK.func [] [AV.nilf] Bool.false)),
(113, (TI.mk Bool.false 1 8 TK.func [] [AV.nilf] Bool.false)),
(114, (TI.mk Bool.false 1 8 TK.func [] [AV.nilf] Bool.false)),
(115, (TI.mk Bool.false 1 8 TK.ptr [] [AV.nilp] Bool.false)),
(116, (TI.mk Bool.false 1 8 TK.func [] [AV.nilf] Bool.false)),
(117, (TI.mk Bool.false 1 8 TK.func [] [AV.nilf] Bool.false)),
(118, (TI.mk Bool.false 1 8 TK.func [] [AV.nilf] Bool.false)),
(119, (TI.mk Bool.true 20 160 (TK.array 20 96) [] [AV.int IntKind.u64 0, AV.int IntKind.u64 0, AV.int IntKind.u64 0, AV.int IntKind.u64 0, AV.int IntKind.u64 0, AV.int IntKind.u64 0, AV.int IntKind.u64 0, AV.int IntKind.u64 0, AV.int IntKind.u64 0, AV.int IntKind.u64 0, AV.int IntKind.u64 0, AV.int IntKind.u64 0, AV.int IntKind.u64 0, AV.int IntKind.u64 0, AV.int IntKind.u64 0, AV.int IntKind.u64 0, AV.int IntKind.u64 0, AV.int IntKind.u64 0, AV.int IntKind.u64 0, AV.int IntKind.u64 0] Bool.false)),
(120, (TI.mk Bool.true 65 65 (TK.array 65 5) [] [AV.int IntKind.u8 0, AV.int IntKind.u8 0, AV.int IntKind.u8 0, AV.int IntKind.u8 0, AV.int IntKind.u8 0, AV.int IntKind.u8 0, AV.int IntKind.u8 0, AV.int IntKind.u8 0, AV.int IntKind.u8 0, AV.int IntKind.u8 0, AV.int IntKind.u8 0, AV.int IntKind.u8 0, AV.int IntKind.u8 0, AV.int IntKind.u8 0, AV.int IntKind.u8 0, AV.int IntKind.u8 0, AV.int IntKind.u8 0, AV.int IntKind.u8 0, AV.int IntKind.u8 0, AV.int IntKind.u8 0, AV.int IntKind.u8 0, AV.int IntKind.u8 0, AV.int IntKind.u8 0, AV.int IntKind.u8 0, AV.int IntKind.u8 0, AV.int IntKind.u8 0, AV.int IntKind.u8 0, AV.int IntKind.u8 0, AV.int IntKind.u8 0, AV.int IntKind.u8 0, AV.int IntKind.u8 0, AV.int IntKind.u8 0, AV.int IntKind.u8 0, AV.int IntKind.u8 0, AV.int IntKind.u8 0, AV.int IntKind.u8 0, AV.int IntKind.u8 0, AV.int IntKind.u8 0, AV.int IntKind.u8 0, AV.int IntKind.u8 0, AV.int IntKind.u8 0, AV.int IntKind.u8 0, AV.int IntKind.u8 0, AV.int IntKind.u8 0, AV.int IntKind.u8 0, AV.int IntKind.u8 0, AV.int IntKind.u8 0, AV.int IntKind.u8 0, AV.int IntKind.u8 0, AV.int IntKind.u8 0, AV.int IntKind.u8 0, AV.int IntKind.u8 0, AV.int IntKind.u8 0, AV.int IntKind.u8 0, AV.int IntKind.u8 0, AV.int IntKind.u8 0, AV.int IntKind.u8 0, AV.int IntKind.u8 0, AV.int IntKind.u8 0, AV.int IntKind.u8 0, AV.int IntKind.u8 0, AV.int IntKind.u8 0, AV.int IntKind.u8 0, AV.int IntKind.u8 0, AV.int IntKind.u8 0] Bool.false)),
(121, (TI.mk Bool.false 1 8 TK.func [] [AV.nilf] Bool.false)),
(122, (TI.mk Bool.false 1 8 TK.func [] [AV.nilf] Bool.false)),
(123, (TI.mk Bool.false 1 8 TK.ptr [] [AV.nilp] Bool.false)),
(124, (TI.mk Bool.false 1 8 TK.ptr [] [AV.nilp] Bool.false)),
(125, (TI.mk Bool.true 1 16 TK.struct [(0, ((9, Bool.true)))] [AV.str []] Bool.true)),
(126, (TI.mk Bool.true 1 16 TK.struct [(0, ((9, Bool.true)))] [AV.str []] Bool.true)),
(127, (TI.mk Bool.false 1 8 TK.ptr [] [AV.nilp] Bool.false)),
(128, (TI.mk Bool.false 1 0 TK.other [] [AV.any] Bool.false)),
(129, (TI.mk Bool.false 1 8 TK.func [] [AV.nilf] Bool.false)),
(130, (TI.mk Bool.true 256 256 (TK.array 256 5) [] [AV.int IntKind.u8 0, AV.int IntKind.u8 0, AV.int IntKind.u8 0, AV.int IntKind.u8 0, AV.int IntKind.u8 0, AV.int IntKind.u8 0, AV.int IntKind.u8 0, AV.int IntKind.u8 0, AV.int IntKind.u8 0, AV.int IntKind.u8 0, AV.int IntKind.u8 0, AV.int IntKind.u8 0, AV.int IntKind.u8 0, AV.int IntKind.u8 0, AV.int IntKind.u8 0, AV.int IntKind.u8 0, AV.int IntKind.u8 0, AV.int IntKind.u8 0, AV.int IntKind.u8 0, AV.int IntKind.u8 0, AV.int IntKind.u8 0, AV.int IntKind.u8 0, AV.int IntKind.u8 0, AV.int IntKind.u8 0, AV.int IntKind.u8 0, AV.int IntKind.u8 0, AV.int IntKind.u8 0, AV.int IntKind.u8 0, AV.int IntKind.u8 0, AV.int IntKind.u8 0, AV.int IntKind.u8 0, AV.int IntKind.u8 0, AV.int IntKind.u8 0, AV.int IntKind.u8 0, AV.int IntKind.u8 0, AV.int IntKind.u8 0, AV.int IntKind.u8 0, AV.int IntKind.u8 0, AV.int IntKind.u8 0, AV.int IntKind.u8 0, AV.int IntKind.u8 0, AV.int IntKind.u8 0, AV.int IntKind.u8 0, AV.int IntKind.u8 0, AV.int IntKind.u8 0, AV.int IntKind.u8 0, AV.int IntKind.u8 0, AV.int IntKind.u8 0, AV.int IntKind.u8 0, AV.int IntKind.u8 0, AV.int IntKind.u8 0, AV.int IntKind.u8 0, AV.int IntKind.u8 0, AV.int IntKind.u8 0, AV.int IntKind.u8 0, AV.int IntKind.u8 0, AV.int IntKind.u8 0, AV.int IntKind.u8 0, AV.int IntKind.u8 0, AV.int IntKind.u8 0, AV.int IntKind.u8 0, AV.int IntKind.u8 0, AV.int IntKind.u8 0, AV.int IntKind.u8 0, AV.int IntKind.u8 0, AV.int IntKind.u8 0, AV.int IntKind.u8 0, AV.int IntKind.u8 0, AV.int IntKind.u8 0, AV.int IntKind.u8 0, AV.int IntKind.u8 0, AV.int IntKind.u8 0, AV.int IntKind.u8 0, AV.int IntKind.u8 0, AV.int IntKind.u8 0, AV.int IntKind.u8 0, AV.int IntKind.u8 0, AV.int IntKind.u8 0, AV.int IntKind.u8 0, AV.int IntKind.u8 0, AV.int IntKind.u8 0, AV.int IntKind.u8 0, AV.int IntKind.u8 0, AV.int IntKind.u8 0, AV.int IntKind.u8 0, AV.int IntKind.u8 0, AV.int IntKind.u8 0, AV.int IntKind.u8 0, AV.int IntKind.u8 0, AV.int IntKind.u8 0, AV.int IntKind.u8 0, AV.int IntKind.u8 0, AV.int IntKind.u8 0, AV.int IntKind.u8 0, AV.int IntKind.u8 0, AV.int IntKind.u8 0, AV.int IntKind.u8 0, AV.int IntKind.u8 0, AV.int IntKind.u8 0, AV.int IntKind.u8 0, AV.int IntKind.u8 0, AV.int IntKind.u8 0, AV.int IntKind.u8 0, AV.int IntKind.u8 0, AV.int IntKind.u8 0, AV.int IntKind.u8 0, AV.int IntKind.u8 0, AV.int IntKind.u8 0, AV.int IntKind.u8 0, AV.int IntKind.u8 0, AV.int IntKind.u8 0, AV.int IntKind.u8 0, AV.int IntKind.u8 0, AV.int IntKind.u8 0, AV.int IntKind.u8 0, AV.int IntKind.u8 0, AV.int IntKind.u8 0, AV.int IntKind.u8 0, AV.int IntKind.u8 0, AV.int IntKind.u8 0, AV.int IntKind.u8 0, AV.int IntKind.u8 0, AV.int IntKind.u8 0, AV.int IntKind.u8 0, AV.int IntKind.u8 0, AV.int IntKind.u8 0, AV.int IntKind.u8 0, AV.int IntKind.u8 0, AV.int IntKind.u8 0, AV.int IntKind.u8 0, AV.int IntKind.u8 0, AV.int IntKind.u8 0, AV.int IntKind.u8 0, AV.int IntKind.u8 0, AV.int IntKind.u8 0, AV.int IntKind.u8 0, AV.int IntKind.u8 0, AV.int IntKind.u8 0, AV.int IntKind.u8 0, AV.int IntKind.u8 0, AV.int IntKind.u8 0, AV.int IntKind.u8 0, AV.int IntKind.u8 0, AV.int IntKind.u8 0, AV.int IntKind.u8 0, AV.int IntKind.u8 0, AV.int IntKind.u8 0, AV.int IntKind.u8 0, AV.int IntKind.u8 0, AV.int IntKind.u8 0, AV.int IntKind.u8 0, AV.int IntKind.u8 0, AV.int IntKind.u8 0, AV.int IntKind.u8 0, AV.int IntKind.u8 0, AV.int IntKind.u8 0, AV.int IntKind.u8 0, AV.int IntKind.u8 0, AV.int IntKind.u8 0, AV.int IntKind.u8 0, AV.int IntKind.u8 0, AV.int IntKind.u8 0, AV.int IntKind.u8 0, AV.int IntKind.u8 0, AV.int IntKind.u8 0, AV.int IntKind.u8 0, AV.int IntKind.u8 0, AV.int IntKind.u8 0, AV.int IntKind.u8 0, AV.int IntKind.u8 0, AV.int IntKind.u8 0, AV.int IntKind.u8 0, AV.int IntKind.u8 0, AV.int IntKind.u8 0, AV.int IntKind.u8 0, AV.int IntKind.u8 0, AV.int IntKind.u8 0, AV.int IntKind.u8 0, AV.int IntKind.u8 0, AV.int IntKind.u8 0, AV.int IntKind.u8 0, AV.int IntKind.u8 0, AV.int IntKind.u8 0, AV.int IntKind.u8 0, AV.int IntKind.u8 0, AV.int IntKind.u8 0, AV.int IntKind.u8 0, AV.int IntKind.u8 0, AV.int IntKind.u8 0, AV.int IntKind.u8 0, AV.int IntKind.u8 0, AV.int IntKind.u8 0, AV.int IntKind.u8 0, AV.int IntKind.u8 0, AV.int IntKind.u8 0, AV.int IntKind.u8 0, AV.int IntKind.u8 0, AV.int IntKind.u8 0, AV.int IntKind.u8 0, AV.int IntKind.u8 0, AV.int IntKind.u8 0, AV.int IntKind.u8 0, AV.int IntKind.u8 0, AV.int IntKind.u8 0, AV.int IntKind.u8 0, AV.int IntKind.u8 0, AV.int IntKind.u8 0, AV.int IntKind.u8 0, AV.int IntKind.u8 0, AV.int IntKind.u8 0, AV.int IntKind.u8 0, AV.int IntKind.u8 0, AV.int IntKind.u8 0, AV.int IntKind.u8 0, AV.int IntKind.u8 0, AV.int IntKind.u8 0, AV.int IntKind.u8 0, AV.int IntKind.u8 0, AV.int IntKind.u8 0, AV.int IntKind.u8 0, AV.int IntKind.u8 0, AV.int IntKind.u8 0, AV.int IntKind.u8 0, AV.int IntKind.u8 0, AV.int IntKind.u8 0, AV.int IntKind.u8 0, AV.int IntKind.u8 0, AV.int IntKind.u8 0, AV.int IntKind.u8 0, AV.int IntKind.u8 0, AV.int IntKind.u8 0, AV.int IntKind.u8 0, AV.int IntKind.u8 0, AV.int IntKind.u8 0, AV.int IntKind.u8 0, AV.int IntKind.u8 0, AV.int IntKind.u8 0, AV.int IntKind.u8 0, AV.int IntKind.u8 0, AV.int IntKind.u8 0, AV.int IntKind.u8 0, AV.int IntKind.u8 0, AV.int IntKind.u8 0, AV.int IntKind.u8 0, AV.int IntKind.u8 0, AV.int IntKind.u8 0, AV.int IntKind.u8 0, AV.int IntKind.u8 0, AV.int IntKind.u8 0, AV.int IntKind.u8 0, AV.int IntKind.u8 0, AV.int IntKind.u8 0, AV.int IntKind.u8 0, AV.int IntKind.u8 0, AV.int IntKind.u8 0, AV.int IntKind.u8 0] Bool.false)),
(131, (TI.mk Bool.true 2 2 TK.struct [(0, ((5, Bool.true))), (1, ((5, Bool.true)))] [AV.int IntKind.u8 0, AV.int IntKind.u8 0] Bool.true)),
(132, (TI.mk Bool.true 2 2 TK.struct [(0, ((5, Bool.true))), (1, ((5, Bool.true)))] [AV.int IntKind.u8 0, AV.int IntKind.u8 0] Bool.true)),
(133, (TI.mk Bool.true 32 32 (TK.array 16 132) [] [AV.int IntKind.u8 0, AV.int IntKind.u8 0, AV.int IntKind.u8 0, AV.int IntKind.u8 0, AV.int IntKind.u8 0, AV.int IntKind.u8 0, AV.int IntKind.u8 0, AV.int IntKind.u8 0, AV.int IntKind.u8 0, AV.int IntKind.u8 0, AV.int IntKind.u8 0, AV.int IntKind.u8 0, AV.int IntKind.u8 0, AV.int IntKind.u8 0, AV.int IntKind.u8 0, AV.int IntKind.u8 0, AV.int IntKind.u8 0, AV.int IntKind.u8 0, AV.int IntKind.u8 0, AV.int IntKind.u8 0, AV.int IntKind.u8 0, AV.int IntKind.u8 0, AV.int IntKind.u8 0, AV.int IntKind.u8 0, AV.int IntKind.u8 0, AV.int IntKind.u8 0, AV.int IntKind.u8 0, AV.int IntKind.u8 0, AV.int IntKind.u8 0, AV.int IntKind.u8 0, AV.int IntKind.u8 0, AV.int IntKind.u8 0] Bool.false)),
(134, (TI.mk Bool.false 1 0 TK.other [] [AV.any] Bool.false)),
(135, (TI.mk Bool.false 1 8 TK.func [] [AV.nilf] Bool.false)),
(136, (TI.mk Bool.true 32 32 (TK.array 32 5) [] [AV.int IntKind.u8 0, AV.int IntKind.u8 0, AV.int IntKind.u8 0, AV.int IntKind.u8 0, AV.int IntKind.u8 0, AV.int IntKind.u8 0, AV.int IntKind.u8 0, AV.int IntKind.u8 0, AV.int IntKind.u8 0, AV.int IntKind.u8 0, AV.int IntKind.u8 0, AV.int IntKind.u8 0, AV.int IntKind.u8 0, AV.int IntKind.u8 0, AV.int IntKind.u8 0, AV.int IntKind.u8 0, AV.int IntKind.u8 0, AV.int IntKind.u8 0, AV.int IntKind.u8 0, AV.int IntKind.u8 0, AV.int IntKind.u8 0, AV.int IntKind.u8 0, AV.int IntKind.u8 0, AV.int IntKind.u8 0, AV.int IntKind.u8 0, AV.int IntKind.u8 0, AV.int IntKind.u8 0, AV.int IntKind.u8 0, AV.int IntKind.u8 0, AV.int IntKind.u8 0, AV.int IntKind.u8 0, AV.int IntKind.u8 0] Bool.false)),
(137, (TI.mk Bool.true 64 64 (TK.array 64 5) [] [AV.int IntKind.u8 0, AV.int IntKind.u8 0, AV.int IntKind.u8 0, AV.int IntKind.u8 0, AV.int IntKind.u8 0, AV.int IntKind.u8 0, AV.int IntKind.u8 0, AV.int IntKind.u8 0, AV.int IntKind.u8 0, AV.int IntKind.u8 0, AV.int IntKind.u8 0, AV.int IntKind.u8 0, AV.int IntKind.u8 0, AV.int IntKind.u8 0, AV.int IntKind.u8 0, AV.int IntKind.u8 0, AV.int IntKind.u8 0, AV.int IntKind.u8 0, AV.int IntKind.u8 0, AV.int IntKind.u8 0, AV.int IntKind.u8 0, AV.int IntKind.u8 0, AV.int IntKind.u8 0, AV.int IntKind.u8 0, AV.int IntKind.u8 0, AV.int IntKind.u8 0, AV.int IntKind.u8 0, AV.int IntKind.u8 0, AV.int IntKind.u8 0, AV.int IntKind.u8 0, AV.int IntKind.u8 0, AV.int IntKind.u8 0, AV.int IntKind.u8 0, AV.int IntKind.u8 0, AV.int IntKind.u8 0, AV.int IntKind.u8 0, AV.int IntKind.u8 0, AV.int IntKind.u8 0, AV.int IntKind.u8 0, AV.int IntKind.u8 0, AV.int IntKind.u8 0, AV.int IntKind.u8 0, AV.int IntKind.u8 0, AV.int IntKind.u8 0, AV.int IntKind.u8 0, AV.int IntKind.u8 0, AV.int IntKind.u8 0, AV.int IntKind.u8 0, AV.int IntKind.u8 0, AV.int IntKind.u8 0, AV.int IntKind.u8 0, AV.int IntKind.u8 0, AV.int IntKind.u8 0, AV.int IntKind.u8 0, AV.int IntKind.u8 0, AV.int IntKind.u8 0, AV.int IntKind.u8 0, AV.int IntKind.u8 0, AV.int IntKind.u8 0, AV.int IntKind.u8 0, AV.int IntKind.u8 0, AV.int IntKind.u8 0, AV.int IntKind.u8 0, AV.int IntKind.u8 0] Bool.false)),
(138, (TI.mk Bool.false 1 8 TK.func [] [AV.nilf] Bool.false)),
(139, (TI.mk Bool.true 4 40 TK.struct [(0, ((17, Bool.true))), (1, ((17, Bool.true))), (2, ((17, Bool.true))), (3, ((9, Bool.true)))] [AV.nilp, AV.nilp, AV.nilp, AV.str []] Bool.false)),
(140, (TI.mk Bool.true 4 40 TK.struct [(0, ((17, Bool.true))), (1, ((17, Bool.true))), (2, ((17, Bool.true))), (3, ((9, Bool.true)))] [AV.nilp, AV.nilp, AV.nilp, AV.str []] Bool.false)),
(141, (TI.mk Bool.true 0 0 (TK.array 0 16) [] [] Bool.false)),
(142, (TI.mk Bool.true 0 0 TK.struct [(0, ((141, Bool.false)))] [] Bool.false)),
(143, (TI.mk Bool.true 0 0 TK.struct [(0, ((141, Bool.false)))] [] Bool.false)),
(144, (TI.mk Bool.false 1 8 TK.func [] [AV.nilf] Bool.false)),
(145, (TI.mk Bool.false 1 1 (TK.int IntKind.u8) [] [AV.int IntKind.u8 0] Bool.false)),
(146, (TI.mk Bool.false 1 1 (TK.int IntKind.u8) [] [AV.int IntKind.u8 0] Bool.false)),
(147, (TI.mk Bool.false 1 8 TK.func [] [AV.nilf] Bool.false)),
(148, (TI.mk Bool.false 1 4 (TK.int IntKind.i32) [] [AV.int IntKind.i32 0] Bool.false)),
(149, (TI.mk Bool.false 1 4 (TK.int IntKind.i32) [] [AV.int IntKind.i32 0] Bool.false)),
(150, (TI.mk Bool.true 11 48 TK.struct [(0, ((12, Bool.true))), (1, ((12, Bool.true))), (2, ((94, Bool.true))), (3, ((145, Bool.true))), (4, ((5, Bool.true))), (5, ((5, Bool.true))), (6, ((146, Bool.true))), (7, ((147, Bool.true))), (8, ((123, Bool.true))), (9, ((148, Bool.true))), (10, ((149, Bool.true)))] [AV.int IntKind.u64 0, AV.int IntKind.u64 0, AV.int IntKind.u32 0, AV.int IntKind.u8 0, AV.int IntKind.u8 0, AV.int IntKind.u8 0, AV.int IntKind.u8 0, AV.nilf, AV.nilp, AV.int IntKind.i32 0, AV.int IntKind.i32 0] Bool.false)),
(151, (TI.mk Bool.true 11 48 TK.struct [(0, ((12, Bool.true))), (1, ((12, Bool.true))), (2, ((94, Bool.true))), (3, ((145, Bool.true))), (4, ((5, Bool.true))), (5, ((5, Bool.true))), (6, ((146, Bool.true))), (7, ((147, Bool.true))), (8, ((123, Bool.true))), (9, ((148, Bool.true))), (10, ((149, Bool.true)))] [AV.int IntKind.u64 0, AV.int IntKind.u64 0, AV.int IntKind.u32 0, AV.int IntKind.u8 0, AV.int IntKind.u8 0, AV.int IntKind.u8 0, AV.int IntKind.u8 0, AV.nilf, AV.nilp, AV.int IntKind.i32 0, AV.int IntKind.i32 0] Bool.false)),
(152, (TI.mk Bool.false 1 8 TK.other [] [AV.nilp] Bool.false))]
def findT : List (Nat × TI) → Nat → Option TI
  | [], _ => none
  | (k, x) :: r, t => bif Nat.beq k t then some x else findT r t
noncomputable def T : TT := findT tab
/-- lading.ladinglaw12.VersionBack -/
def ann3 : Ann := { kinds := [(7, .S), (9, .S)], nl := [16, 28, 41, 42, 49, 53, 64], lw := [7, 9] }
/-- lading.ladinglaw12.VersionOrder -/
def ann4 : Ann := { nl := [12, 13, 17, 18, 22, 23, 40, 41, 46, 47, 51, 52, 54, 55, 59, 62, 87, 88] }
/-- lading.ladinglaw12.VersionSets -/
def ann5 : Ann := { nl := [41, 44, 66, 73, 83, 93, 113, 120, 129, 136, 146, 153, 161], loops := [(0, { vals := [(0, none), (1, none), (7, none), (8, none), (11, none), (12, none), (15, none)] })] }
/-- lading.ladinglaw12.VersionLaws -/
def ann6 : Ann := {  }
/-- lading.ladinglaw12.VersionNewest -/
def ann7 : Ann := { kinds := [(8, .S), (10, .S), (16, .S)], no := [62], nl := [61, 68, 80, 81, 93, 94, 112, 118, 119, 134, 135], lw := [8, 10, 16], loops := [(0, { vals := [(0, none), (1, none), (7, none), (8, none), (9, none), (10, none), (11, none), (12, some 3), (13, none), (14, none)] })] }
/-- lading.ladinglaw12.small -/
def ann8 : Ann := { kinds := [(1, .S), (3, .S), (5, .S), (11, .S)], no := [36, 41, 46, 52, 58, 117, 132], nl := [78, 83, 89, 95, 101, 102, 139, 145, 149, 153], lw := [1, 3, 5, 11] }
/-- lading.version.Print -/
def ann9 : Ann := { nl := [3, 7, 11, 16], ords := [(3, [0, 1, 4, 5, 9, 10, 2, 3, 6, 7, 8, 11, 12, 13])] }
/-- lading.version.Parse -/
def ann10 : Ann := { kinds := [(5, .H), (10, .S)], hl := [43, 45, 47], hb := [5], nl := [23, 43, 45, 47, 49, 53], lw := [2, 10], loops := [(0, { vals := [(5, none), (17, none), (18, none), (19, none), (3000, none), (3001, none), (3002, none)], locs := [(2, 3000, 0)], lbs := [(3000, 3)] })] }
/-- lading.version.Right -/
def ann11 : Ann := { nl := [4, 6, 8, 13, 15, 17] }
/-- lading.version.Compare -/
def ann12 : Ann := { no := [20], nl := [6, 8, 11, 13, 16, 18] }
/-- lading.version.Bump -/
def ann13 : Ann := { nl := [6, 10, 15, 16, 22, 24, 28, 30] }
/-- lading.version.Norm -/
def ann14 : Ann := { kinds := [(6, .S)], hl := [18, 31, 39], ha := [53], hb := [4], no := [52], nl := [18, 26, 31, 39, 41, 47, 51], lw := [6], loops := [(0, { vals := [(4, none), (13, none), (14, none), (15, none)] })] }
/-- lading.version.Union -/
def ann15 : Ann := { no := [7] }
/-- lading.version.Common -/
def ann16 : Ann := { kinds := [(7, .S), (9, .S)], no := [34], nl := [15, 21, 24, 26, 29, 31], lw := [7, 9], loops := [(0, { vals := [(1, none), (5, some 6), (10, none), (11, none), (12, none)] }), (2, { vals := [(1, none), (5, some 6), (7, none), (10, none), (11, none), (12, none), (16, none), (17, none), (18, none)] })] }
/-- lading.version.Minus -/
def ann17 : Ann := { kinds := [(7, .S), (10, .S)], no := [43], nl := [19, 25, 28, 30, 32, 36, 38, 41], lw := [7, 10], loops := [(0, { vals := [(5, none), (14, none), (15, none), (16, none)] }), (2, { vals := [(7, none), (8, some 6), (14, none), (15, none), (16, none), (20, none), (21, none), (22, none)] })] }
/-- lading.version.Has -/
def ann18 : Ann := {  }
/-- lading.ladinglaw12.normal -/
def ann19 : Ann := { nl := [14, 19, 31, 36], loops := [(0, { vals := [(0, none), (3, none)] })] }
/-- lading.ladingref12.Same -/
def ann20 : Ann := { nl := [20, 24], loops := [(0, { vals := [(0, none), (1, none), (5, none)] })] }
/-- lading.version.Newest -/
def ann21 : Ann := { kinds := [(9, .S)], nl := [15, 17, 23, 29], lw := [4, 6, 9], loops := [(0, { vals := [(1, none), (7, none), (10, none), (11, none), (12, none), (5000, none), (5001, none), (5002, none), (7000, none), (7001, none), (7002, none)], locs := [(4, 5000, 0), (6, 7000, 0)], lbs := [(5000, 3), (7000, 3)] })] }
/-- lading.ladinglaw12.to -/
def ann22 : Ann := { nl := [5, 6], lw := [4] }
/-- lading.ladinglaw12.v -/
def ann23 : Ann := { lw := [6] }
/-- strconv.Itoa -/
def ann24 : Ann := {  }
/-- strings.Split -/
def ann25 : Ann := {  }
/-- strconv.Atoi -/
def ann26 : Ann := {  }
/-- cmp.Or[int] -/
def ann27 : Ann := { nl := [11], loops := [(0, { vals := [(3, none), (6, none), (7, none), (8, none)] })] }
/-- cmp.Compare[int] -/
def ann28 : Ann := {  }
/-- slices.DeleteFunc[[]lading.api.Range,lading.api.Range] -/
def ann29 : Ann := { iso := false, kinds := [(7, .S)], hl := [25], nl := [25, 27, 32], lw := [7], joins := [(1000001, { vals := [(0, none), (1, none), (5, none), (6, none)] })], loops := [(0, { vals := [(0, none), (1, none), (5, none), (6, none)] })] }
/-- slices.Clone[[]lading.api.Range,lading.api.Range] -/
def ann30 : Ann := { iso := false, ha := [7] }
/-- lading.version.Norm$1 -/
def ann31 : Ann := { nl := [4, 6] }
/-- slices.SortFunc[[]lading.api.Range,lading.api.Range] -/
def ann32 : Ann := { iso := false }
/-- lading.version.Norm$2 -/
def ann33 : Ann := { nl := [6, 8] }
/-- slices.Concat[[]lading.api.Range,lading.api.Range] -/
def ann34 : Ann := { hb := [24], nl := [14, 30], loops := [(0, { vals := [(0, none), (3, none), (9, none), (10, none), (11, none)] }), (2, { vals := [(6, some 6), (25, none), (26, none), (27, none)] })] }
/-- lading.version.greater -/
def ann35 : Ann := { nl := [5, 6, 9, 10], lw := [4] }
/-- lading.version.less -/
def ann36 : Ann := { nl := [5, 6, 9, 10], lw := [4] }
/-- slices.ContainsFunc[[]lading.api.Range,lading.api.Range] -/
def ann37 : Ann := {  }
/-- lading.version.Has$1 -/
def ann38 : Ann := { nl := [4, 5] }
/-- lading.version.in -/
def ann39 : Ann := { nl := [6, 7, 11, 13] }
/-- cmp.isNaN[int] -/
def ann44 : Ann := {  }
/-- slices.IndexFunc[[]lading.api.Range,lading.api.Range] -/
def ann45 : Ann := { iso := false, hl := [15], nl := [15], loops := [(0, { vals := [(0, none), (1, none), (7, none), (8, none)] })] }
/-- slices.pdqsortCmpFunc[lading.api.Range] -/
def ann46 : Ann := { iso := false, hl := [89, 93], nl := [89, 93], joins := [(39, { vals := [(0, none), (1, none), (2, none), (3, none), (4, none), (10, none), (11, none), (12, none)] }), (56, { vals := [(0, none), (1, none), (2, none), (3, none), (4, none), (10, none), (11, none), (12, none), (13, none), (14, none)] }), (75, { vals := [(0, none), (1, none), (2, none), (3, none), (4, none), (10, none), (11, none), (12, none), (13, none)] })], loops := [(0, { vals := [(0, none), (1, none), (2, none), (3, none), (4, none), (10, none), (11, none)] })] }
/-- math.bits.Len -/
def ann47 : Ann := {  }
/-- slices.Grow[[]lading.api.Range,lading.api.Range] -/
def ann48 : Ann := { joins := [(6, { vals := [(0, none), (1, none)] })] }
/-- slices.insertionSortCmpFunc[lading.api.Range] -/
def ann58 : Ann := { iso := false, hl := [26, 31, 46, 50], nl := [26, 31, 46, 50], loops := [(0, { vals := [(0, none), (1, none), (2, none), (3, none), (8, none)] }), (2, { vals := [(0, none), (1, none), (2, none), (3, none), (8, none), (9, none)] })] }
/-- slices.heapSortCmpFunc[lading.api.Range] -/
def ann59 : Ann := { iso := false, nl := [47, 51], loops := [(0, { vals := [(0, none), (3, none), (8, none), (9, none), (10, none), (11, none)] }), (2, { vals := [(0, none), (3, none), (8, none), (9, none), (12, none)] })] }
/-- slices.breakPatternsCmpFunc[lading.api.Range] -/
def ann60 : Ann := { iso := false, kinds := [(9, .S)], nl := [60, 64], lw := [9], joins := [(45, { vals := [(0, none), (1, none), (8, none), (9, none), (10, none), (11, none), (12, none)] })], loops := [(0, { vals := [(0, none), (1, none), (8, none), (9, none), (10, none), (11, none)] })] }
/-- slices.choosePivotCmpFunc[lading.api.Range] -/
def ann61 : Ann := { iso := false, kinds := [(11, .F)], nl := [55], joins := [(34, { vals := [(11, none), (13, none)] }), (36, { vals := [(0, none), (3, none), (11, none), (12, none), (13, none), (14, none)] })] }
/-- slices.reverseRangeCmpFunc[lading.api.Range] -/
def ann62 : Ann := { iso := false, nl := [23, 27], loops := [(0, { vals := [(0, none), (8, none), (9, none)] })] }
/-- slices.partialInsertionSortCmpFunc[lading.api.Range] -/
def ann63 : Ann := { iso := false, nl := [27, 32, 55, 59, 76, 81, 94, 98, 116, 121, 134, 138], joins := [(65, { vals := [(0, none), (1, none), (2, none), (3, none), (9, none), (10, none)] }), (1000001, { vals := [(0, none), (1, none), (2, none), (3, none), (9, none), (10, none)] })], loops := [(0, { vals := [(0, none), (1, none), (2, none), (3, none), (9, none), (10, none)] }), (2, { vals := [(0, none), (1, none), (2, none), (3, none), (9, none), (10, none)] }), (4, { vals := [(0, none), (1, none), (2, none), (3, none), (9, none), (10, none), (11, none)] }), (6, { vals := [(0, none), (1, none), (2, none), (3, none), (9, none), (10, none), (12, none)] })] }
/-- slices.partitionEqualCmpFunc[lading.api.Range] -/
def ann64 : Ann := { iso := false, nl := [20, 24, 39, 43, 58, 62, 78, 82], loops := [(0, { vals := [(0, none), (1, none), (4, none), (11, none), (12, none)] }), (2, { vals := [(0, none), (1, none), (4, none), (11, none), (12, none)] }), (4, { vals := [(0, none), (1, none), (4, none), (11, none), (12, none)] })] }
/-- slices.partitionCmpFunc[lading.api.Range] -/
def ann65 : Ann := { iso := false, nl := [21, 25, 40, 44, 58, 62, 79, 83, 94, 98, 113, 117, 131, 135, 152, 156, 170, 174], loops := [(0, { vals := [(0, none), (1, none), (4, none), (12, none), (13, none)] }), (2, { vals := [(0, none), (1, none), (4, none), (12, none), (13, none)] }), (4, { vals := [(0, none), (1, none), (4, none), (12, none), (13, none)] }), (6, { vals := [(0, none), (1, none), (4, none), (12, none), (13, none)] }), (8, { vals := [(0, none), (1, none), (4, none), (12, none), (13, none)] })] }
/-- math.bits.Len32 -/
def ann66 : Ann := { joins := [(4, { vals := [(0, none), (2, none)] }), (8, { vals := [(0, none), (2, none)] })] }
/-- math.bits.Len64 -/
def ann67 : Ann := { joins := [(4, { vals := [(0, none), (2, none)] }), (8, { vals := [(0, none), (2, none)] }), (14, { vals := [(0, none), (2, none)] })] }
noncomputable def tabF : List (Nat × (Func × Ann)) := [
(3, (Tryd.f3, ann3)),
(4, (Tryd.f4, ann4)),
(5, (Tryd.f5, ann5)),
(6, (Tryd.f6, ann6)),
(7, (Tryd.f7, ann7)),
(8, (Tryd.f8, ann8)),
(9, (Tryd.f9, ann9)),
(10, (Tryd.f10, ann10)),
(11, (Tryd.f11, ann11)),
(12, (Tryd.f12, ann12)),
(13, (Tryd.f13, ann13)),
(14, (Tryd.f14, ann14)),
(15, (Tryd.f15, ann15)),
(16, (Tryd.f16, ann16)),
(17, (Tryd.f17, ann17)),
(18, (Tryd.f18, ann18)),
(19, (Tryd.f19, ann19)),
(20, (Tryd.f20, ann20)),
(21, (Tryd.f21, ann21)),
(22, (Tryd.f22, ann22)),
(23, (Tryd.f23, ann23)),
(27, (Tryd.f27, ann27)),
(28, (Tryd.f28, ann28)),
(29, (Tryd.f29, ann29)),
(31, (Tryd.f31, ann31)),
(32, (Tryd.f32, ann32)),
(33, (Tryd.f33, ann33)),
(34, (Tryd.f34, ann34)),
(35, (Tryd.f35, ann35)),
(36, (Tryd.f36, ann36)),
(37, (Tryd.f37, ann37)),
(38, (Tryd.f38, ann38)),
(39, (Tryd.f39, ann39)),
(44, (Tryd.f44, ann44)),
(45, (Tryd.f45, ann45)),
(46, (Tryd.f46, ann46)),
(47, (Tryd.f47, ann47)),
(58, (Tryd.f58, ann58)),
(66, (Tryd.f66, ann66)),
(67, (Tryd.f67, ann67))]
def findF : List (Nat × (Func × Ann)) → Nat → Option (Func × Ann)
  | [], _ => none
  | (k, x) :: r, t => bif Nat.beq k t then some x else findF r t
def own : FuncId → Option Nat := fun f => bif Nat.beq f 48 then some 6 else none
/-- The functions that are known by other means. -/
noncomputable def other : FuncId → Option ((FuncId → List AV → M AV) → List AV → M AV) := fun f =>
  bif Nat.beq f 24 then some (itoaE) else bif Nat.beq f 25 then some (splitE) else bif Nat.beq f 26 then some (atoiE 82) else bif Nat.beq f 30 then some (cloneH T 32) else bif Nat.beq f 48 then some (failE) else bif Nat.beq f 59 then some (failE) else bif Nat.beq f 60 then some (failE) else bif Nat.beq f 61 then some (failE) else bif Nat.beq f 62 then some (failE) else bif Nat.beq f 63 then some (failE) else bif Nat.beq f 64 then some (failE) else bif Nat.beq f 65 then some (failE) else none
noncomputable def pg : Pg := { T := T, funcs := findF tabF, own := own, other := other, nw := fun f => bif Nat.beq f 30 then true else false }
theorem hOther : OtherLim pg := by
  intro f E hE call calls hc
  have h0 : other f = some E := hE
  unfold other at h0
  rcases other_bif h0 with rfl | h0
  · exact LimF.const _
  rcases other_bif h0 with rfl | h0
  · exact LimF.const _
  rcases other_bif h0 with rfl | h0
  · exact LimF.const _
  rcases other_bif h0 with rfl | h0
  · exact cloneH_lim _ _ _ _
  rcases other_bif h0 with rfl | h0
  · exact LimF.const _
  rcases other_bif h0 with rfl | h0
  · exact LimF.const _
  rcases other_bif h0 with rfl | h0
  · exact LimF.const _
  rcases other_bif h0 with rfl | h0
  · exact LimF.const _
  rcases other_bif h0 with rfl | h0
  · exact LimF.const _
  rcases other_bif h0 with rfl | h0
  · exact LimF.const _
  rcases other_bif h0 with rfl | h0
  · exact LimF.const _
  rcases other_bif h0 with rfl | h0
  · exact LimF.const _
  cases h0
end Go.Proofs.YtllapohmppeceaaDoor
