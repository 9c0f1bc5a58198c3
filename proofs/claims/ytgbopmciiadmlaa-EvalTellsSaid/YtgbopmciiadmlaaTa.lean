/- What the functions of the seat compute, part 1: the texts of the claim, one behind the other. Conditions: bounds, as each theorem names them. -/
import Derived.Test.YtgbopmciiadmlaaLc
import Derived.Test.YtgbopmciiadmlaaProg
import Derived.KernelRfl
import Derived.Tactics
import Derived.Tactics2
import Derived.Defers
import Derived.Recover

namespace Go.Proofs.Ytgbopmciiadmlaa
open Go Go.Av
abbrev CC := FuncId → List AV → M AV
theorem lb {α β : Type} {m : M α} {f : α → M β} {fs : Nat → α → M β} (hf : LimF f fs) : LimM (bnd m f) fun n => bnd m (fs n) := LimM.bnd (LimM.const _) hf
noncomputable def tab : List (Nat × TI) := [
(0, (TI.mk Bool.false 1 0 TK.other [] [AV.any] Bool.false)),
(1, (TI.mk Bool.false 1 8 TK.func [] [AV.nilf] Bool.false)),
(2, (TI.mk Bool.false 1 8 (TK.int IntKind.i64) [] [AV.int IntKind.i64 0] Bool.false)),
(3, (TI.mk Bool.false 1 8 (TK.int IntKind.i64) [] [AV.int IntKind.i64 0] Bool.false)),
(4, (TI.mk Bool.false 1 1 TK.bool [] [AV.bool Bool.false] Bool.false)),
(5, (TI.mk Bool.false 1 1 (TK.int IntKind.u8) [] [AV.int IntKind.u8 0] Bool.false)),
(6, (TI.mk Bool.false 1 1 (TK.int IntKind.u8) [] [AV.int IntKind.u8 0] Bool.false)),
(7, (TI.mk Bool.true 4 24 TK.struct [(0, ((2, Bool.true))), (1, ((3, Bool.true))), (2, ((4, Bool.true))), (3, ((6, Bool.true)))] [AV.int IntKind.i64 0, AV.int IntKind.i64 0, AV.bool Bool.false, AV.int IntKind.u8 0] Bool.true)),
(8, (TI.mk Bool.true 4 24 TK.struct [(0, ((2, Bool.true))), (1, ((3, Bool.true))), (2, ((4, Bool.true))), (3, ((6, Bool.true)))] [AV.int IntKind.i64 0, AV.int IntKind.i64 0, AV.bool Bool.false, AV.int IntKind.u8 0] Bool.true)),
(9, (TI.mk Bool.false 1 16 TK.str [] [AV.str []] Bool.false)),
(10, (TI.mk Bool.false 1 16 TK.str [] [AV.str []] Bool.false)),
(11, (TI.mk Bool.false 1 16 TK.str [] [AV.str []] Bool.false)),
(12, (TI.mk Bool.false 1 8 (TK.int IntKind.u64) [] [AV.int IntKind.u64 0] Bool.false)),
(13, (TI.mk Bool.true 2 24 TK.struct [(0, ((9, Bool.true))), (1, ((12, Bool.true)))] [AV.str [], AV.int IntKind.u64 0] Bool.false)),
(14, (TI.mk Bool.true 2 24 TK.struct [(0, ((9, Bool.true))), (1, ((12, Bool.true)))] [AV.str [], AV.int IntKind.u64 0] Bool.false)),
(15, (TI.mk Bool.false 1 8 TK.ptr [] [AV.nilp] Bool.false)),
(16, (TI.mk Bool.false 1 8 TK.ptr [] [AV.nilp] Bool.false)),
(17, (TI.mk Bool.false 1 8 TK.ptr [] [AV.nilp] Bool.false)),
(18, (TI.mk Bool.true 1 8 TK.struct [(0, ((17, Bool.true)))] [AV.nilp] Bool.false)),
(19, (TI.mk Bool.true 1 8 TK.struct [(0, ((17, Bool.true)))] [AV.nilp] Bool.false)),
(20, (TI.mk Bool.false 1 16 TK.iface [] [AV.nili] Bool.false)),
(21, (TI.mk Bool.false 1 4 (TK.int IntKind.i32) [] [AV.int IntKind.i32 0] Bool.false)),
(22, (TI.mk Bool.false 1 24 (TK.slice 63) [] [AV.sl []] Bool.false)),
(23, (TI.mk Bool.false 1 24 (TK.slice 39) [] [AV.sl []] Bool.false)),
(24, (TI.mk Bool.false 1 24 (TK.slice 3) [] [AV.sl []] Bool.false)),
(25, (TI.mk Bool.false 1 24 (TK.slice 9) [] [AV.sl []] Bool.false)),
(26, (TI.mk Bool.false 1 24 (TK.slice 28) [] [AV.sl []] Bool.false)),
(27, (TI.mk Bool.true 6 96 TK.struct [(0, ((3, Bool.true))), (1, ((3, Bool.true))), (2, ((9, Bool.true))), (3, ((9, Bool.true))), (4, ((25, Bool.true))), (5, ((26, Bool.true)))] [AV.int IntKind.i64 0, AV.int IntKind.i64 0, AV.str [], AV.str [], AV.sl [], AV.sl []] Bool.true)),
(28, (TI.mk Bool.true 6 96 TK.struct [(0, ((3, Bool.true))), (1, ((3, Bool.true))), (2, ((9, Bool.true))), (3, ((9, Bool.true))), (4, ((25, Bool.true))), (5, ((26, Bool.true)))] [AV.int IntKind.i64 0, AV.int IntKind.i64 0, AV.str [], AV.str [], AV.sl [], AV.sl []] Bool.true)),
(29, (TI.mk Bool.false 1 8 TK.func [] [AV.nilf] Bool.false)),
(30, (TI.mk Bool.false 1 8 TK.func [] [AV.nilf] Bool.false)),
(31, (TI.mk Bool.false 1 8 TK.func [] [AV.nilf] Bool.false)),
(32, (TI.mk Bool.false 1 24 (TK.slice 47) [] [AV.sl []] Bool.false)),
(33, (TI.mk Bool.false 1 8 (TK.int IntKind.i64) [] [AV.int IntKind.i64 0] Bool.false)),
(34, (TI.mk Bool.false 1 0 TK.other [] [AV.any] Bool.false)),
(35, (TI.mk Bool.false 1 8 TK.func [] [AV.nilf] Bool.false)),
(36, (TI.mk Bool.false 1 8 TK.func [] [AV.nilf] Bool.false)),
(37, (TI.mk Bool.false 1 8 TK.func [] [AV.nilf] Bool.false)),
(38, (TI.mk Bool.true 4 64 TK.struct [(0, ((3, Bool.true))), (1, ((3, Bool.true))), (2, ((25, Bool.true))), (3, ((23, Bool.true)))] [AV.int IntKind.i64 0, AV.int IntKind.i64 0, AV.sl [], AV.sl []] Bool.true)),
(39, (TI.mk Bool.true 4 64 TK.struct [(0, ((3, Bool.true))), (1, ((3, Bool.true))), (2, ((25, Bool.true))), (3, ((23, Bool.true)))] [AV.int IntKind.i64 0, AV.int IntKind.i64 0, AV.sl [], AV.sl []] Bool.true)),
(40, (TI.mk Bool.false 1 24 (TK.slice 55) [] [AV.sl []] Bool.false)),
(41, (TI.mk Bool.false 1 24 (TK.slice 69) [] [AV.sl []] Bool.false)),
(42, (TI.mk Bool.true 8 144 TK.struct [(0, ((33, Bool.true))), (1, ((39, Bool.true))), (5, ((40, Bool.true))), (6, ((41, Bool.true))), (7, ((32, Bool.true)))] [AV.int IntKind.i64 0, AV.int IntKind.i64 0, AV.int IntKind.i64 0, AV.sl [], AV.sl [], AV.sl [], AV.sl [], AV.sl []] Bool.true)),
(43, (TI.mk Bool.true 8 144 TK.struct [(0, ((33, Bool.true))), (1, ((39, Bool.true))), (5, ((40, Bool.true))), (6, ((41, Bool.true))), (7, ((32, Bool.true)))] [AV.int IntKind.i64 0, AV.int IntKind.i64 0, AV.int IntKind.i64 0, AV.sl [], AV.sl [], AV.sl [], AV.sl [], AV.sl []] Bool.true)),
(44, (TI.mk Bool.false 1 8 TK.func [] [AV.nilf] Bool.false)),
(45, (TI.mk Bool.false 1 8 TK.func [] [AV.nilf] Bool.false)),
(46, (TI.mk Bool.true 2 40 TK.struct [(0, ((9, Bool.true))), (1, ((23, Bool.true)))] [AV.str [], AV.sl []] Bool.true)),
(47, (TI.mk Bool.true 2 40 TK.struct [(0, ((9, Bool.true))), (1, ((23, Bool.true)))] [AV.str [], AV.sl []] Bool.true)),
(48, (TI.mk Bool.false 1 8 TK.func [] [AV.nilf] Bool.false)),
(49, (TI.mk Bool.false 1 0 TK.other [] [AV.any] Bool.false)),
(50, (TI.mk Bool.false 1 8 TK.func [] [AV.nilf] Bool.false)),
(51, (TI.mk Bool.false 1 8 TK.func [] [AV.nilf] Bool.false)),
(52, (TI.mk Bool.false 1 8 TK.func [] [AV.nilf] Bool.false)),
(53, (TI.mk Bool.false 1 8 TK.func [] [AV.nilf] Bool.false)),
(54, (TI.mk Bool.true 3 24 TK.struct [(0, ((3, Bool.true))), (1, ((3, Bool.true))), (2, ((3, Bool.true)))] [AV.int IntKind.i64 0, AV.int IntKind.i64 0, AV.int IntKind.i64 0] Bool.true)),
(55, (TI.mk Bool.true 3 24 TK.struct [(0, ((3, Bool.true))), (1, ((3, Bool.true))), (2, ((3, Bool.true)))] [AV.int IntKind.i64 0, AV.int IntKind.i64 0, AV.int IntKind.i64 0] Bool.true)),
(56, (TI.mk Bool.false 1 8 TK.func [] [AV.nilf] Bool.false)),
(57, (TI.mk Bool.false 1 8 TK.func [] [AV.nilf] Bool.false)),
(58, (TI.mk Bool.false 1 24 (TK.slice 104) [] [AV.sl []] Bool.false)),
(59, (TI.mk Bool.false 1 24 (TK.slice 67) [] [AV.sl []] Bool.false)),
(60, (TI.mk Bool.true 3 72 TK.struct [(0, ((58, Bool.true))), (1, ((26, Bool.true))), (2, ((26, Bool.true)))] [AV.sl [], AV.sl [], AV.sl []] Bool.true)),
(61, (TI.mk Bool.true 3 72 TK.struct [(0, ((58, Bool.true))), (1, ((26, Bool.true))), (2, ((26, Bool.true)))] [AV.sl [], AV.sl [], AV.sl []] Bool.true)),
(62, (TI.mk Bool.true 9 192 TK.struct [(0, ((9, Bool.true))), (1, ((25, Bool.true))), (2, ((58, Bool.true))), (3, ((26, Bool.true))), (4, ((59, Bool.true))), (5, ((4, Bool.true))), (6, ((61, Bool.true)))] [AV.str [], AV.sl [], AV.sl [], AV.sl [], AV.sl [], AV.bool Bool.false, AV.sl [], AV.sl [], AV.sl []] Bool.true)),
(63, (TI.mk Bool.true 9 192 TK.struct [(0, ((9, Bool.true))), (1, ((25, Bool.true))), (2, ((58, Bool.true))), (3, ((26, Bool.true))), (4, ((59, Bool.true))), (5, ((4, Bool.true))), (6, ((61, Bool.true)))] [AV.str [], AV.sl [], AV.sl [], AV.sl [], AV.sl [], AV.bool Bool.false, AV.sl [], AV.sl [], AV.sl []] Bool.true)),
(64, (TI.mk Bool.true 2 32 TK.struct [(0, ((3, Bool.true))), (1, ((58, Bool.true)))] [AV.int IntKind.i64 0, AV.sl []] Bool.true)),
(65, (TI.mk Bool.true 2 32 TK.struct [(0, ((3, Bool.true))), (1, ((58, Bool.true)))] [AV.int IntKind.i64 0, AV.sl []] Bool.true)),
(66, (TI.mk Bool.true 12 184 TK.struct [(0, ((9, Bool.true))), (1, ((4, Bool.true))), (2, ((58, Bool.true))), (3, ((65, Bool.true))), (5, ((3, Bool.true))), (6, ((28, Bool.true)))] [AV.str [], AV.bool Bool.false, AV.sl [], AV.int IntKind.i64 0, AV.sl [], AV.int IntKind.i64 0, AV.int IntKind.i64 0, AV.int IntKind.i64 0, AV.str [], AV.str [], AV.sl [], AV.sl []] Bool.true)),
(67, (TI.mk Bool.true 12 184 TK.struct [(0, ((9, Bool.true))), (1, ((4, Bool.true))), (2, ((58, Bool.true))), (3, ((65, Bool.true))), (5, ((3, Bool.true))), (6, ((28, Bool.true)))] [AV.str [], AV.bool Bool.false, AV.sl [], AV.int IntKind.i64 0, AV.sl [], AV.int IntKind.i64 0, AV.int IntKind.i64 0, AV.int IntKind.i64 0, AV.str [], AV.str [], AV.sl [], AV.sl []] Bool.true)),
(68, (TI.mk Bool.true 3 56 TK.struct [(0, ((9, Bool.true))), (1, ((9, Bool.true))), (2, ((23, Bool.true)))] [AV.str [], AV.str [], AV.sl []] Bool.true)),
(69, (TI.mk Bool.true 3 56 TK.struct [(0, ((9, Bool.true))), (1, ((9, Bool.true))), (2, ((23, Bool.true)))] [AV.str [], AV.str [], AV.sl []] Bool.true)),
(70, (TI.mk Bool.false 1 8 TK.func [] [AV.nilf] Bool.false)),
(71, (TI.mk Bool.false 1 8 TK.func [] [AV.nilf] Bool.false)),
(72, (TI.mk Bool.false 1 8 TK.func [] [AV.nilf] Bool.false)),
(73, (TI.mk Bool.false 1 8 TK.func [] [AV.nilf] Bool.false)),
(74, (TI.mk Bool.false 1 8 TK.func [] [AV.nilf] Bool.false)),
(75, (TI.mk Bool.false 1 8 TK.func [] [AV.nilf] Bool.false)),
(76, (TI.mk Bool.false 1 8 TK.func [] [AV.nilf] Bool.false)),
(77, (TI.mk Bool.false 1 8 TK.func [] [AV.nilf] Bool.false)),
(78, (TI.mk Bool.false 1 8 TK.func [] [AV.nilf] Bool.false)),
(79, (TI.mk Bool.false 1 8 TK.ptr [] [AV.nilp] Bool.false)),
(80, (TI.mk Bool.true 12 208 TK.struct [(0, ((22, Bool.true))), (1, ((24, Bool.true))), (2, ((3, Bool.true))), (3, ((3, Bool.true))), (4, ((43, Bool.true)))] [AV.sl [], AV.sl [], AV.int IntKind.i64 0, AV.int IntKind.i64 0, AV.int IntKind.i64 0, AV.int IntKind.i64 0, AV.int IntKind.i64 0, AV.sl [], AV.sl [], AV.sl [], AV.sl [], AV.sl []] Bool.true)),
(81, (TI.mk Bool.true 12 208 TK.struct [(0, ((22, Bool.true))), (1, ((24, Bool.true))), (2, ((3, Bool.true))), (3, ((3, Bool.true))), (4, ((43, Bool.true)))] [AV.sl [], AV.sl [], AV.int IntKind.i64 0, AV.int IntKind.i64 0, AV.int IntKind.i64 0, AV.int IntKind.i64 0, AV.int IntKind.i64 0, AV.sl [], AV.sl [], AV.sl [], AV.sl [], AV.sl []] Bool.true)),
(82, (TI.mk Bool.false 1 8 TK.func [] [AV.nilf] Bool.false)),
(83, (TI.mk Bool.false 1 0 TK.other [] [AV.any] Bool.false)),
(84, (TI.mk Bool.false 1 8 TK.func [] [AV.nilf] Bool.false)),
(85, (TI.mk Bool.false 1 8 TK.func [] [AV.nilf] Bool.false)),
(86, (TI.mk Bool.false 1 8 TK.func [] [AV.nilf] Bool.false)),
(87, (TI.mk Bool.false 1 8 TK.func [] [AV.nilf] Bool.false)),
(88, (TI.mk Bool.false 1 8 TK.func [] [AV.nilf] Bool.false)),
(89, (TI.mk Bool.false 1 8 TK.func [] [AV.nilf] Bool.false)),
(90, (TI.mk Bool.false 1 8 TK.func [] [AV.nilf] Bool.false)),
(91, (TI.mk Bool.false 1 8 TK.func [] [AV.nilf] Bool.false)),
(92, (TI.mk Bool.false 1 8 TK.func [] [AV.nilf] Bool.false)),
(93, (TI.mk Bool.false 1 8 TK.ptr [] [AV.nilp] Bool.false)),
(94, (TI.mk Bool.true 13 216 TK.struct [(0, ((22, Bool.true))), (1, ((43, Bool.true))), (9, ((24, Bool.true))), (10, ((3, Bool.true))), (11, ((3, Bool.true))), (12, ((3, Bool.true)))] [AV.sl [], AV.int IntKind.i64 0, AV.int IntKind.i64 0, AV.int IntKind.i64 0, AV.sl [], AV.sl [], AV.sl [], AV.sl [], AV.sl [], AV.sl [], AV.int IntKind.i64 0, AV.int IntKind.i64 0, AV.int IntKind.i64 0] Bool.true)),
(95, (TI.mk Bool.true 13 216 TK.struct [(0, ((22, Bool.true))), (1, ((43, Bool.true))), (9, ((24, Bool.true))), (10, ((3, Bool.true))), (11, ((3, Bool.true))), (12, ((3, Bool.true)))] [AV.sl [], AV.int IntKind.i64 0, AV.int IntKind.i64 0, AV.int IntKind.i64 0, AV.sl [], AV.sl [], AV.sl [], AV.sl [], AV.sl [], AV.sl [], AV.int IntKind.i64 0, AV.int IntKind.i64 0, AV.int IntKind.i64 0] Bool.true)),
(96, (TI.mk Bool.false 1 8 TK.func [] [AV.nilf] Bool.false)),
(97, (TI.mk Bool.true 3 56 TK.struct [(0, ((3, Bool.true))), (1, ((25, Bool.true))), (2, ((23, Bool.true)))] [AV.int IntKind.i64 0, AV.sl [], AV.sl []] Bool.true)),
(98, (TI.mk Bool.true 3 56 TK.struct [(0, ((3, Bool.true))), (1, ((25, Bool.true))), (2, ((23, Bool.true)))] [AV.int IntKind.i64 0, AV.sl [], AV.sl []] Bool.true)),
(99, (TI.mk Bool.false 1 8 TK.func [] [AV.nilf] Bool.false)),
(100, (TI.mk Bool.true 3 56 TK.struct [(0, ((3, Bool.true))), (1, ((25, Bool.true))), (2, ((23, Bool.true)))] [AV.int IntKind.i64 0, AV.sl [], AV.sl []] Bool.true)),
(101, (TI.mk Bool.true 3 56 TK.struct [(0, ((3, Bool.true))), (1, ((25, Bool.true))), (2, ((23, Bool.true)))] [AV.int IntKind.i64 0, AV.sl [], AV.sl []] Bool.true)),
(102, (TI.mk Bool.false 1 8 TK.func [] [AV.nilf] Bool.false)),
(103, (TI.mk Bool.true 3 48 TK.struct [(0, ((9, Bool.true))), (1, ((65, Bool.true)))] [AV.str [], AV.int IntKind.i64 0, AV.sl []] Bool.true)),
(104, (TI.mk Bool.true 3 48 TK.struct [(0, ((9, Bool.true))), (1, ((65, Bool.true)))] [AV.str [], AV.int IntKind.i64 0, AV.sl []] Bool.true)),
(105, (TI.mk Bool.false 1 8 TK.func [] [AV.nilf] Bool.false)),
(106, (TI.mk Bool.false 1 8 TK.func [] [AV.nilf] Bool.false)),
(107, (TI.mk Bool.false 1 8 TK.func [] [AV.nilf] Bool.false)),
(108, (TI.mk Bool.false 1 8 TK.func [] [AV.nilf] Bool.false)),
(109, (TI.mk Bool.false 1 8 TK.func [] [AV.nilf] Bool.false)),
(110, (TI.mk Bool.false 1 8 TK.func [] [AV.nilf] Bool.false)),
(111, (TI.mk Bool.false 1 8 TK.func [] [AV.nilf] Bool.false)),
(112, (TI.mk Bool.false 1 8 TK.func [] [AV.nilf] Bool.false)),
(113, (TI.mk Bool.false 1 8 TK.func [] [AV.nilf] Bool.false)),
(114, (TI.mk Bool.false 1 8 TK.func [] [AV.nilf] Bool.false)),
(115, (TI.mk Bool.false 1 8 TK.func [] [AV.nilf] Bool.false)),
(116, (TI.mk Bool.false 1 8 TK.func [] [AV.nilf] Bool.false)),
(117, (TI.mk Bool.false 1 8 TK.func [] [AV.nilf] Bool.false)),
(118, (TI.mk Bool.false 1 8 TK.func [] [AV.nilf] Bool.false)),
(119, (TI.mk Bool.false 1 8 TK.func [] [AV.nilf] Bool.false)),
(120, (TI.mk Bool.false 1 8 TK.func [] [AV.nilf] Bool.false)),
(121, (TI.mk Bool.false 1 8 TK.func [] [AV.nilf] Bool.false)),
(122, (TI.mk Bool.false 1 8 TK.func [] [AV.nilf] Bool.false)),
(123, (TI.mk Bool.false 1 8 TK.func [] [AV.nilf] Bool.false)),
(124, (TI.mk Bool.false 1 8 TK.func [] [AV.nilf] Bool.false)),
(125, (TI.mk Bool.false 1 8 TK.func [] [AV.nilf] Bool.false)),
(126, (TI.mk Bool.false 1 8 TK.func [] [AV.nilf] Bool.false)),
(127, (TI.mk Bool.false 1 8 TK.func [] [AV.nilf] Bool.false)),
(128, (TI.mk Bool.false 1 8 TK.func [] [AV.nilf] Bool.false)),
(129, (TI.mk Bool.false 1 8 TK.func [] [AV.nilf] Bool.false)),
(130, (TI.mk Bool.false 1 8 TK.func [] [AV.nilf] Bool.false)),
(131, (TI.mk Bool.false 1 8 TK.func [] [AV.nilf] Bool.false)),
(132, (TI.mk Bool.true 4 40 TK.struct [(0, ((17, Bool.true))), (1, ((17, Bool.true))), (2, ((17, Bool.true))), (3, ((9, Bool.true)))] [AV.nilp, AV.nilp, AV.nilp, AV.str []] Bool.false)),
(133, (TI.mk Bool.true 4 40 TK.struct [(0, ((17, Bool.true))), (1, ((17, Bool.true))), (2, ((17, Bool.true))), (3, ((9, Bool.true)))] [AV.nilp, AV.nilp, AV.nilp, AV.str []] Bool.false)),
(134, (TI.mk Bool.true 0 0 (TK.array 0 16) [] [] Bool.false)),
(135, (TI.mk Bool.true 0 0 TK.struct [(0, ((134, Bool.false)))] [] Bool.false)),
(136, (TI.mk Bool.true 0 0 TK.struct [(0, ((134, Bool.false)))] [] Bool.false)),
(137, (TI.mk Bool.false 1 8 TK.func [] [AV.nilf] Bool.false)),
(138, (TI.mk Bool.false 1 4 (TK.int IntKind.u32) [] [AV.int IntKind.u32 0] Bool.false)),
(139, (TI.mk Bool.false 1 1 (TK.int IntKind.u8) [] [AV.int IntKind.u8 0] Bool.false)),
(140, (TI.mk Bool.false 1 1 (TK.int IntKind.u8) [] [AV.int IntKind.u8 0] Bool.false)),
(141, (TI.mk Bool.false 1 8 TK.func [] [AV.nilf] Bool.false)),
(142, (TI.mk Bool.false 1 8 TK.ptr [] [AV.nilp] Bool.false)),
(143, (TI.mk Bool.false 1 4 (TK.int IntKind.i32) [] [AV.int IntKind.i32 0] Bool.false)),
(144, (TI.mk Bool.false 1 4 (TK.int IntKind.i32) [] [AV.int IntKind.i32 0] Bool.false)),
(145, (TI.mk Bool.true 11 48 TK.struct [(0, ((12, Bool.true))), (1, ((12, Bool.true))), (2, ((138, Bool.true))), (3, ((139, Bool.true))), (4, ((5, Bool.true))), (5, ((5, Bool.true))), (6, ((140, Bool.true))), (7, ((141, Bool.true))), (8, ((142, Bool.true))), (9, ((143, Bool.true))), (10, ((144, Bool.true)))] [AV.int IntKind.u64 0, AV.int IntKind.u64 0, AV.int IntKind.u32 0, AV.int IntKind.u8 0, AV.int IntKind.u8 0, AV.int IntKind.u8 0, AV.int IntKind.u8 0, AV.nilf, AV.nilp, AV.int IntKind.i32 0, AV.int IntKind.i32 0] Bool.false)),
(146, (TI.mk Bool.true 11 48 TK.struct [(0, ((12, Bool.true))), (1, ((12, Bool.true))), (2, ((138, Bool.true))), (3, ((139, Bool.true))), (4, ((5, Bool.true))), (5, ((5, Bool.true))), (6, ((140, Bool.true))), (7, ((141, Bool.true))), (8, ((142, Bool.true))), (9, ((143, Bool.true))), (10, ((144, Bool.true)))] [AV.int IntKind.u64 0, AV.int IntKind.u64 0, AV.int IntKind.u32 0, AV.int IntKind.u8 0, AV.int IntKind.u8 0, AV.int IntKind.u8 0, AV.int IntKind.u8 0, AV.nilf, AV.nilp, AV.int IntKind.i32 0, AV.int IntKind.i32 0] Bool.false)),
(147, (TI.mk Bool.false 1 8 TK.other [] [AV.nilp] Bool.false))]
def findT : List (Nat × TI) → Nat → Option TI
 | [], _ => none
 | (k, x) :: r, t => bif Nat.beq k t then some x else findT r t
noncomputable def T : TT := findT tab
def ann3 : Ann := { kinds := [(25, .S), (27, .S)], hl := [99, 108], no := [144], nl := [38, 99, 108, 113, 147, 154, 169, 174, 180, 184, 188, 192, 206, 207], lw := [25, 27], joins := [(1000000, { vals := [(0, none), (1, none), (2, none), (3, none), (4, none), (5, none), (13, none), (15, none), (20, none)], fz := true })], loops := [(0, { vals := [(0, none), (1, none), (2, none), (3, none), (4, none), (5, none), (13, none), (15, none), (20, none), (21, none)] }), (2, { vals := [(0, none), (1, none), (2, none), (3, none), (4, none), (5, none), (13, none), (15, none), (20, none), (21, none), (22, none)] }), (4, { vals := [(3, none), (13, none), (15, none), (23, some 1), (24, none)] }), (6, { vals := [(3, none), (15, none), (25, none), (26, none), (27, none), (28, none), (29, none)] })] }
def ann4 : Ann := { kinds := [(16, .S), (20, .S)], no := [66], nl := [43, 55, 57, 61, 79, 80], lw := [16, 20], joins := [(51, { vals := [(0, none), (1, none), (2, none), (3, none), (4, none), (5, none), (6, none), (15, none), (16, none), (17, some 1), (18, none), (19, none)] })], loops := [(0, { vals := [(0, none), (1, none), (2, none), (3, none), (4, none), (5, none), (6, none), (15, none), (16, none), (17, some 1), (18, none)] })] }
def ann5 : Ann := { kinds := [(16, .S), (17, .S)], nl := [55, 59, 60, 65, 66], lw := [16, 17] }
def ann6 : Ann := { kinds := [(20, .S), (24, .S), (25, .S)], ha := [50], fz := [65, 179], no := [66, 183], nl := [43, 49, 85, 91, 96, 102, 111, 131, 139, 143, 148, 155, 159, 164, 170, 178, 188, 189], lw := [16, 20, 24, 25, 51], loops := [(0, { vals := [(0, none), (1, none), (2, none), (3, none), (4, none), (5, none), (13, none), (14, some 9), (15, none)] }), (2, { vals := [(0, none), (1, none), (2, none), (3, none), (4, none), (5, none), (13, none), (14, some 9), (15, none), (17, none), (17000, none), (17001, none), (17002, none), (17003, none), (17004, none), (17005, none), (17006, none), (17007, none), (17008, none)], locs := [(16, 17000, 0)], lbs := [(17000, 9)] }), (4, { vals := [(1, none), (2, none), (3, none), (5, none), (13, none), (14, some 9), (18, none), (20, none), (21, none)] }), (6, { vals := [(1, none), (2, none), (3, none), (5, none), (13, none), (14, some 9), (18, none), (20, none), (21, none), (22, none), (23, none)] })] }
def ann7 : Ann := { kinds := [(3, .S), (4, .S), (5, .S), (6, .S), (7, .S), (9, .S), (10, .S), (12, .S)], no := [15, 18, 25, 28, 30, 32, 36, 38, 44, 48, 50, 58, 60], nl := [35, 47, 55, 62, 65, 70, 75, 84, 85, 93, 98], lw := [3, 4, 5, 6, 7, 9, 10, 12] }
def ann8 : Ann := { nl := [40, 48, 57, 65, 74, 83, 86, 94, 103, 107, 115, 119, 132], loops := [(0, { vals := [(0, none), (1, none), (9, none)] }), (2, { vals := [(0, none), (1, none), (9, none), (10, none)] }), (4, { vals := [(0, none), (1, none), (9, none), (11, none)] }), (6, { vals := [(1, none), (12, none)] })] }
def ann9 : Ann := { nl := [15, 27, 30], loops := [(0, { vals := [(1, none), (2, none), (3, none), (7, none), (8, none)] })] }
def ann10 : Ann := { kinds := [(7, .S), (10, .S), (11, .S)], hb := [8, 26], no := [52, 58], nl := [23, 25, 28, 31, 35, 40, 42, 51], lw := [7, 8, 10, 11, 54], loops := [(0, { vals := [(5, some 2), (18, none), (19, none), (20, none)] }), (2, { vals := [(5, some 2), (18, none), (19, none), (20, none), (35, none), (36, none), (37, none), (9000, none), (9001, some 4)], locs := [(8, 9000, 0)], lbs := [(9000, 2)] })], nils := [(8, [1])] }
def ann11 : Ann := { kinds := [(7, .S), (10, .S)], hb := [8, 36], no := [59, 64], nl := [26, 28, 31, 35, 39, 46, 49, 58], lw := [7, 8, 10, 61], loops := [(0, { vals := [(0, none), (5, some 2), (6, none)] }), (2, { vals := [(0, none), (5, some 2), (6, none), (7, none), (9, none), (9000, none), (9001, some 4)], locs := [(8, 9000, 0)], lbs := [(9000, 2)] })], nils := [(8, [1])] }
def ann12 : Ann := { nl := [21, 26, 33, 38], loops := [(0, { vals := [(0, none), (1, none), (5, none)] })] }
def ann13 : Ann := { nl := [7, 9, 13, 16, 22, 25, 30, 31, 36, 38, 44, 48, 50] }
def ann14 : Ann := { lw := [12] }
def ann15 : Ann := { lw := [12] }
def ann16 : Ann := { iso := false, ha := [23, 26], hb := [3], no := [25], nl := [16, 22], loops := [(0, { vals := [(0, none), (3, none), (4, none)] })] }
def ann17 : Ann := { kinds := [(16, .S), (17, .S), (18, .S), (21, .S), (45, .H)], hl := [81, 110], ha := [89], hb := [44], no := [88], nl := [46, 50, 51, 59, 62, 66, 75, 76, 77, 81, 83, 85, 95, 96, 107, 110], lw := [14, 16, 17, 18, 21], loops := [(0, { vals := [(11, none), (16, none), (17, none), (18, none), (70, none), (71, none), (72, none), (15000, none), (15001, none), (15002, none), (15003, none), (15004, none), (15005, none), (15006, none), (15007, none)], locs := [(14, 15000, 0)], lbs := [(15000, 8)] })] }
def ann18 : Ann := { kinds := [(18, .S), (20, .S), (74, .H)], hl := [90, 100], hb := [73], nl := [54, 57, 61, 83, 90, 93, 100], lw := [14, 18, 20], joins := [(91, { vals := [(19, none), (15000, none), (15001, none), (15002, none), (15003, none), (15004, none), (15005, none), (15006, none), (15007, none)], locs := [(14, 15000, 0)], lbs := [(15000, 8)] })] }
def ann19 : Ann := { kinds := [(8, .S), (20, .H)], hb := [19], nl := [9, 11, 15], lw := [6, 8] }
def ann20 : Ann := { kinds := [(9, .S), (22, .H)], hl := [33, 40], hb := [21], nl := [27, 33, 40, 41], lw := [6, 9] }
def ann21 : Ann := { nl := [3] }
def ann22 : Ann := { nl := [3] }
def ann23 : Ann := { nl := [5, 8, 12, 13] }
def ann24 : Ann := { nl := [5, 8, 12, 13] }
def ann25 : Ann := { nl := [8, 11, 16, 19, 25, 31, 34, 36, 39, 43, 49, 53, 55, 59, 63, 67, 69, 73, 78, 82, 84, 88], loops := [(0, { vals := [(2, none), (3, none), (5, none)] }), (2, { vals := [(2, none), (3, none), (6, none)] })] }
def ann26 : Ann := { nl := [20, 24], loops := [(0, { vals := [(0, none), (1, none), (5, none)] })] }
def ann27 : Ann := { kinds := [(1, .S), (2, .S), (3, .S)], no := [5, 9, 12, 14, 18, 20, 22, 24], nl := [8, 13, 21], lw := [1, 2, 3] }
def ann28 : Ann := { lw := [2] }
def ann29 : Ann := { nl := [10, 15, 21, 27, 32, 35, 39, 45, 47, 54, 57, 62, 65, 67] }
def ann30 : Ann := { nl := [8, 18, 22, 27, 31, 38, 41, 48, 51, 65, 69, 74, 80, 86, 93], loops := [(0, { vals := [(1, none), (3, none)] }), (2, { vals := [(1, none), (4, none), (5, none)] })] }
def ann31 : Ann := { nl := [15, 27, 30], loops := [(0, { vals := [(1, none), (2, none), (3, none), (7, none), (8, none)] })] }
def ann32 : Ann := { kinds := [(4, .S)], nl := [14], lw := [4], loops := [(0, { vals := [(0, none), (8, none), (9, none), (10, none)] })] }
def ann33 : Ann := { nl := [18], loops := [(0, { vals := [(0, none), (3, none)] })] }
def ann34 : Ann := {  }
def ann35 : Ann := { iso := false, hl := [8], nl := [8] }
def ann36 : Ann := { iso := false, hl := [16], nl := [16, 20, 30], lw := [6] }
def ann37 : Ann := {  }
def ann38 : Ann := { nl := [3] }
def ann39 : Ann := { iso := false, ha := [7] }
def ann41 : Ann := { iso := false, nl := [5, 6, 7, 8], lw := [4] }
def ann42 : Ann := { iso := false, kinds := [(11, .S), (12, .S)], hl := [16, 26, 30, 67, 79], ha := [41], no := [40], nl := [16, 20, 26, 30, 34, 36, 48, 54, 57, 61, 67, 74, 79, 83], lw := [8, 9, 11, 12], joins := [(20, { vals := [(0, none), (1, none), (3, none), (6, none), (9000, none), (9001, none), (9002, none), (9003, none)], locs := [(8, 9000, 0)], lbs := [(9000, 4)] })], loops := [(0, { vals := [(0, none), (3, none), (6, none), (48, none), (49, none), (50, none), (9000, none), (9001, none), (9002, none), (9003, none), (10000, none), (10001, none), (10002, none)], locs := [(8, 9000, 0), (9, 10000, 0)], lbs := [(9000, 4), (10000, 3)] })] }
def ann43 : Ann := { nl := [21, 26, 33, 39, 48], loops := [(0, { vals := [(0, none), (1, none), (5, none)] })] }
def ann44 : Ann := { nl := [16], loops := [(0, { vals := [(0, none), (1, none), (5, none)] })] }
def ann45 : Ann := { nl := [15, 24, 28], loops := [(0, { vals := [(0, none), (1, none), (2, none), (7, none)] })] }
def ann46 : Ann := { nl := [13], loops := [(0, { vals := [(0, none), (3, none)] })] }
def ann47 : Ann := { iso := false, kinds := [(11, .S)], hl := [16, 22, 33, 37, 76, 88], ha := [49], no := [48], nl := [16, 22, 27, 33, 37, 41, 43, 63, 67, 71, 76, 83, 88, 92], lw := [8, 9, 11], joins := [(27, { vals := [(0, none), (1, none), (3, none), (6, none), (9000, none), (9001, none), (9002, none), (9003, none)], locs := [(8, 9000, 0)], lbs := [(9000, 4)] })], loops := [(0, { vals := [(0, none), (3, none), (6, none), (10, none), (9000, none), (9001, none), (9002, none), (9003, none), (10000, none), (10001, none), (10002, none)], locs := [(8, 9000, 0), (9, 10000, 0)], lbs := [(9000, 4), (10000, 3)] })] }
def ann48 : Ann := { nl := [3] }
def ann49 : Ann := { iso := false, nl := [5, 6, 7, 9], lw := [4] }
def ann50 : Ann := { iso := false, kinds := [(9, .S)], hl := [14, 20], nl := [14, 20, 25, 35, 42, 46, 51, 55, 60, 66, 74, 77, 79, 82, 85, 94, 96, 98, 100, 103, 105, 107, 114, 116, 118, 121, 125, 129, 131, 133, 139, 141, 143, 150, 152, 154, 157, 159, 161, 164, 166, 168, 173, 175, 177, 179, 181, 185, 187, 192, 193, 198, 200, 202, 205, 207, 210, 218, 221, 225, 226, 229, 230], lw := [6, 9], joins := [(87, { vals := [(0, none), (4, none), (5, none), (42, none), (87, none), (7000, none), (7001, none), (7002, none), (7003, none)], locs := [(6, 7000, 0)], lbs := [(7000, 4)] }), (110, { vals := [(0, none), (4, none), (5, none), (42, none), (110, none), (7000, none), (7001, none), (7002, none), (7003, none)], locs := [(6, 7000, 0)], lbs := [(7000, 4)] }), (1000000, { vals := [(0, none), (4, none), (5, none), (7000, none), (7001, none), (7002, none), (7003, none)], locs := [(6, 7000, 0)], lbs := [(7000, 4)] })], loops := [(1, { vals := [(0, none), (4, none), (5, none), (8, none), (7000, none), (7001, none), (7002, none), (7003, none)], locs := [(6, 7000, 0)], lbs := [(7000, 4)] })], ords := [(23, [0, 1, 2, 3, 4, 5, 6, 7, 9, 10, 11, 12, 13, 14, 8, 15, 16, 17]), (26, [0, 1, 2, 3, 4, 5, 7, 8, 9, 6, 10]), (36, [0, 1, 2, 3, 4, 5, 6, 7, 8, 9, 12, 13, 14, 15, 10, 11, 16, 17]), (40, [0, 1, 2, 3, 4, 5, 7, 6, 8])] }
def ann51 : Ann := { iso := false, kinds := [(9, .S)], hl := [14, 20, 27], nl := [14, 20, 27, 32, 42, 50, 54, 59, 63, 69, 75, 83, 86, 88, 91, 94, 100, 101, 106, 107, 112, 113, 119, 120, 125, 127, 129, 132, 134, 135, 138, 140, 143, 144], lw := [6, 9], joins := [(115, { vals := [(0, none), (4, none), (5, none), (50, none), (115, none), (7000, none), (7001, none), (7002, none), (7003, none)], locs := [(6, 7000, 0)], lbs := [(7000, 4)] })], loops := [(1, { vals := [(0, none), (4, none), (5, none), (8, none), (7000, none), (7001, none), (7002, none), (7003, none)], locs := [(6, 7000, 0)], lbs := [(7000, 4)] })], ords := [(33, [0, 1, 2, 3, 4, 5, 7, 6, 8])] }
def ann52 : Ann := { nl := [5, 8, 12, 16, 21, 27, 31, 36, 41, 45, 50, 53, 59, 65, 70] }
def ann53 : Ann := { nl := [10, 15, 20, 23, 28, 31, 35, 38, 43, 48, 52, 56, 62, 68, 74, 77], loops := [(0, { vals := [(1, none), (2, none), (5, none)] })] }
def ann54 : Ann := { nl := [6, 8, 12, 14, 19, 21, 26, 28] }
def ann55 : Ann := { nl := [7, 9, 13, 15, 20, 23, 29, 35, 38, 40, 43, 47, 50, 52, 55], loops := [(0, { vals := [(2, none), (3, none), (5, none)] })] }
def ann56 : Ann := { nl := [18], loops := [(0, { vals := [(0, none), (3, none)] })] }
def ann57 : Ann := { nl := [15, 27, 31], loops := [(0, { vals := [(1, none), (2, none), (3, none), (7, none), (8, none)] })] }
def ann58 : Ann := {  }
def ann59 : Ann := { nl := [5, 7] }
def ann60 : Ann := { kinds := [(8, .S), (9, .S)], nl := [21, 25, 27, 28], lw := [8, 9], loops := [(0, { vals := [(1, none), (2, none), (15, none), (16, none), (17, none)] })] }
def ann61 : Ann := { nl := [6, 8, 12, 15, 21] }
def ann62 : Ann := { nl := [3] }
def ann63 : Ann := { nl := [15], loops := [(0, { vals := [(0, none), (1, none), (7, none), (8, none)] })] }
def ann64 : Ann := { nl := [5, 6] }
def ann65 : Ann := { nl := [15], loops := [(0, { vals := [(0, none), (1, none), (7, none), (8, none)] })] }
def ann66 : Ann := { nl := [5, 6] }
def ann67 : Ann := { nl := [15], loops := [(0, { vals := [(0, none), (1, none), (7, none), (8, none)] })] }
def ann69 : Ann := {  }
def ann70 : Ann := { no := [13, 19], nl := [8, 10, 16, 18], lw := [6] }
def ann71 : Ann := { iso := false, hl := [9], nl := [9], lw := [4], joins := [(10, { vals := [(5000, none), (5001, none), (5002, none), (5003, none)], locs := [(4, 5000, 0)], lbs := [(5000, 4)] })] }
def ann72 : Ann := { kinds := [(3, .L)], no := [12, 20], nl := [19], lw := [6, 14, 22] }
def ann73 : Ann := { joins := [(4, { vals := [(3, none), (4, none)] }), (9, { vals := [(3, none), (9, none)] }), (14, { vals := [(3, none), (14, none)] }), (25, { vals := [(25, none)] })] }
def ann74 : Ann := { lw := [2] }
def ann75 : Ann := { lw := [2] }
def ann76 : Ann := { iso := false, nl := [10, 12, 16, 21, 23, 27, 31, 39, 41, 47, 49, 55, 57, 61, 63], lw := [6] }
def ann77 : Ann := { iso := false, kinds := [(7, .S)], nl := [9, 10, 13, 17], lw := [7] }
def ann78 : Ann := { iso := false, kinds := [(9, .S)], hb := [7, 31], no := [45], nl := [11, 14, 19, 24, 29, 33, 38, 42, 43], lw := [6, 7, 9, 47], loops := [(0, { vals := [(0, none), (4, none), (33, none), (34, none), (35, none), (7000, none), (7001, none), (7002, none), (7003, none), (8000, none), (8001, none), (8002, none), (8003, some 4)], locs := [(6, 7000, 0), (7, 8000, 0)], lbs := [(7000, 4), (8000, 4)] })], nils := [(7, [3])] }
def ann79 : Ann := { nl := [15], loops := [(0, { vals := [(0, none), (1, none), (7, none), (8, none)] })] }
def ann80 : Ann := { iso := false, kinds := [(8, .S), (12, .S)], no := [61], nl := [14, 16, 20, 26, 33, 37, 42, 45, 50, 55, 58, 59, 66], lw := [6, 8, 12], joins := [(17, { vals := [(0, none), (4, none), (5, none), (7, none), (7000, none), (7001, none), (7002, none), (7003, none)], locs := [(6, 7000, 0)], lbs := [(7000, 4)] })], loops := [(0, { vals := [(0, none), (4, none), (7, none), (8, none), (10, some 4), (50, none), (51, none), (52, none), (7000, none), (7001, none), (7002, none), (7003, none)], locs := [(6, 7000, 0)], lbs := [(7000, 4)] })] }
def ann81 : Ann := { iso := false, kinds := [(7, .S)], hl := [47, 54, 60, 69, 90, 105, 110, 127], ha := [77], no := [76], nl := [12, 15, 17, 19, 22, 26, 30, 35, 40, 47, 54, 56, 60, 69, 71, 73, 84, 90, 92, 95, 105, 107, 110, 112, 117, 119, 121, 127], lw := [6, 7], joins := [(49, { vals := [(0, none), (5, none), (7, none), (8, none), (7000, none), (7001, none), (7002, none), (7003, none)], locs := [(6, 7000, 0)], lbs := [(7000, 4)] }), (113, { vals := [(9, none), (10, none), (7000, none), (7001, none), (7002, none), (7003, none)], locs := [(6, 7000, 0)], lbs := [(7000, 4)] })], ords := [(2, [0, 1, 2, 3, 4, 5, 7, 6, 8])] }
def ann82 : Ann := { joins := [(4, { vals := [(0, none), (3, none), (4, none)] }), (9, { vals := [(0, none), (3, none), (9, none)] }), (16, { vals := [(0, none), (16, none)] })] }
def ann83 : Ann := { lw := [2, 3, 6], joins := [(5, { vals := [(3000, none), (3001, none), (3002, none), (3003, none), (4000, none), (4001, none), (4002, none), (4003, none)], locs := [(2, 3000, 0), (3, 4000, 0)], lbs := [(3000, 4), (4000, 4)] })] }
def ann84 : Ann := { iso := false, hl := [59], hb := [7, 34], no := [52], nl := [10, 13, 18, 25, 32, 37, 45, 47, 50, 59], lw := [6, 7, 54], loops := [(0, { vals := [(0, none), (4, none), (5, none), (8, none), (7000, none), (7001, none), (7002, none), (7003, none), (8000, none), (8001, none), (8002, none), (8003, some 4)], locs := [(6, 7000, 0), (7, 8000, 0)], lbs := [(7000, 4), (8000, 4)] })], nils := [(7, [3])] }
def ann85 : Ann := { iso := false, kinds := [(9, .S)], hl := [20, 27, 39], no := [82], nl := [13, 15, 20, 22, 27, 30, 39, 43, 46, 48, 52, 58, 61, 68, 75, 77, 80, 86], lw := [6, 9], joins := [(16, { vals := [(0, none), (4, none), (5, none), (7, none), (7000, none), (7001, none), (7002, none), (7003, none)], locs := [(6, 7000, 0)], lbs := [(7000, 4)] })], loops := [(0, { vals := [(0, none), (4, none), (5, none), (7, none), (9, none), (10, some 4), (11, none), (7000, none), (7001, none), (7002, none), (7003, none)], locs := [(6, 7000, 0)], lbs := [(7000, 4)] })] }
def ann86 : Ann := { iso := false, kinds := [(7, .S)], hl := [20, 51, 55, 61, 65, 71, 80], ha := [88], no := [87], nl := [10, 12, 14, 20, 22, 24, 29, 33, 38, 43, 51, 55, 61, 65, 67, 71, 80, 82, 84], lw := [6, 7], joins := [(57, { vals := [(0, none), (5, none), (7, none), (8, none), (7000, none), (7001, none), (7002, none), (7003, none)], locs := [(6, 7000, 0)], lbs := [(7000, 4)] })], ords := [(1, [0, 1, 2, 3, 4, 5, 7, 6, 8])] }
def ann87 : Ann := { iso := false, kinds := [(9, .S)], hl := [18, 53, 58, 61, 73, 79, 84], nl := [11, 18, 20, 23, 33, 35, 47, 53, 55, 58, 61, 63, 65, 67, 73, 79, 81, 84, 86, 88], lw := [6, 9], joins := [(74, { vals := [(9, none), (7000, none), (7001, none), (7002, none), (7003, none)], locs := [(6, 7000, 0)], lbs := [(7000, 4)] })], loops := [(0, { vals := [(0, none), (4, none), (5, none), (7, none), (8, none), (7000, none), (7001, none), (7002, none), (7003, none)], locs := [(6, 7000, 0)], lbs := [(7000, 4)] })], ords := [(11, [0, 1, 2, 3, 4, 5, 7, 6, 8])] }
def ann88 : Ann := { iso := false, kinds := [(7, .S), (9, .S), (10, .S)], hl := [22, 100, 121], nl := [12, 14, 16, 22, 24, 26, 31, 37, 40, 42, 45, 48, 57, 62, 65, 69, 72, 74, 76, 79, 82, 85, 88, 90, 92, 94, 100, 104, 109, 111, 113, 115, 121, 123, 126, 127, 128], lw := [6, 7, 9, 10], joins := [(51, { vals := [(0, none), (4, none), (5, none), (7, none), (51, none), (7000, none), (7001, none), (7002, none), (7003, none)], locs := [(6, 7000, 0)], lbs := [(7000, 4)] })], loops := [(1, { vals := [(0, none), (5, none), (7, none), (8, none), (7000, none), (7001, none), (7002, none), (7003, none)], locs := [(6, 7000, 0)], lbs := [(7000, 4)] })], ords := [(1, [0, 1, 2, 3, 4, 5, 7, 6, 8]), (24, [0, 1, 2, 3, 4, 5, 7, 6, 8]), (28, [0, 1, 2, 3, 4, 5, 7, 6, 8])] }
def ann89 : Ann := { nl := [14, 18], loops := [(0, { vals := [(0, none), (3, none)] })] }
def ann90 : Ann := { nl := [4, 5] }
def ann91 : Ann := { nl := [14, 18], loops := [(0, { vals := [(0, none), (3, none)] })] }
def ann92 : Ann := { nl := [19, 23], loops := [(0, { vals := [(0, none), (1, none), (12, none), (13, none)] })] }
def ann93 : Ann := { kinds := [(8, .S), (9, .S)], nl := [21, 25, 27, 28], lw := [8, 9], loops := [(0, { vals := [(1, none), (2, none), (15, none), (16, none), (17, none)] })] }
def ann94 : Ann := {  }
def ann95 : Ann := {  }
def ann96 : Ann := {  }
def ann97 : Ann := { kinds := [(5, .S)], nl := [7, 12, 14], lw := [5], loops := [(0, { vals := [(3, none), (7, none), (8, none), (9, none)] })] }
def ann98 : Ann := { nl := [15], loops := [(0, { vals := [(0, none), (1, none), (7, none), (8, none)] })] }
def ann99 : Ann := { nl := [5, 7] }
def ann100 : Ann := { nl := [3] }
def ann101 : Ann := { iso := false, kinds := [(6, .L)], nl := [15, 26, 38, 47, 55, 63, 71], lw := [8, 49, 65, 73], joins := [(1000000, { vals := [(7000, none), (7001, none), (7002, none), (7003, none), (9000, none), (9001, none), (9002, none), (9003, none)], locs := [(6, 7000, 0), (8, 9000, 0)], lbs := [(7000, 4), (9000, 4)] })] }
def ann102 : Ann := { nl := [11, 18, 21], loops := [(0, { vals := [(1, none), (2, none), (5, none), (6, none)] })] }
noncomputable def tabF : List (Nat × (Func × Ann)) := [
(3, (Try.f3, ann3)),
(4, (Try.f4, ann4)),
(5, (Try.f5, ann5)),
(6, (Try.f6, ann6)),
(7, (Try.f7, ann7)),
(8, (Try.f8, ann8)),
(9, (Try.f9, ann9)),
(10, (Try.f10, ann10)),
(11, (Try.f11, ann11)),
(12, (Try.f12, ann12)),
(13, (Try.f13, ann13)),
(14, (Try.f14, ann14)),
(15, (Try.f15, ann15)),
(16, (Try.f16, ann16)),
(17, (Try.f17, ann17)),
(18, (Try.f18, ann18)),
(19, (Try.f19, ann19)),
(20, (Try.f20, ann20)),
(21, (Try.f21, ann21)),
(22, (Try.f22, ann22)),
(23, (Try.f23, ann23)),
(24, (Try.f24, ann24)),
(25, (Try.f25, ann25)),
(26, (Try.f26, ann26)),
(27, (Try.f27, ann27)),
(28, (Try.f28, ann28)),
(29, (Try.f29, ann29)),
(30, (Try.f30, ann30)),
(31, (Try.f31, ann31)),
(32, (Try.f32, ann32)),
(33, (Try.f33, ann33)),
(34, (Try.f34, ann34)),
(35, (Try.f35, ann35)),
(36, (Try.f36, ann36)),
(37, (Try.f37, ann37)),
(38, (Try.f38, ann38)),
(41, (Try.f41, ann41)),
(42, (Try.f42, ann42)),
(43, (Try.f43, ann43)),
(44, (Try.f44, ann44)),
(45, (Try.f45, ann45)),
(46, (Try.f46, ann46)),
(47, (Try.f47, ann47)),
(48, (Try.f48, ann48)),
(49, (Try.f49, ann49)),
(50, (Try.f50, ann50)),
(51, (Try.f51, ann51)),
(52, (Try.f52, ann52)),
(53, (Try.f53, ann53)),
(54, (Try.f54, ann54)),
(55, (Try.f55, ann55)),
(56, (Try.f56, ann56)),
(57, (Try.f57, ann57)),
(58, (Try.f58, ann58)),
(59, (Try.f59, ann59)),
(60, (Try.f60, ann60)),
(61, (Try.f61, ann61)),
(62, (Try.f62, ann62)),
(63, (Try.f63, ann63)),
(64, (Try.f64, ann64)),
(65, (Try.f65, ann65)),
(66, (Try.f66, ann66)),
(67, (Try.f67, ann67)),
(69, (Try.f69, ann69)),
(70, (Try.f70, ann70)),
(71, (Try.f71, ann71)),
(72, (Try.f72, ann72)),
(73, (Try.f73, ann73)),
(74, (Try.f74, ann74)),
(75, (Try.f75, ann75)),
(76, (Try.f76, ann76)),
(77, (Try.f77, ann77)),
(78, (Try.f78, ann78)),
(79, (Try.f79, ann79)),
(80, (Try.f80, ann80)),
(81, (Try.f81, ann81)),
(82, (Try.f82, ann82)),
(83, (Try.f83, ann83)),
(84, (Try.f84, ann84)),
(85, (Try.f85, ann85)),
(86, (Try.f86, ann86)),
(87, (Try.f87, ann87)),
(88, (Try.f88, ann88)),
(89, (Try.f89, ann89)),
(90, (Try.f90, ann90)),
(91, (Try.f91, ann91)),
(92, (Try.f92, ann92)),
(93, (Try.f93, ann93)),
(94, (Try.f94, ann94)),
(95, (Try.f95, ann95)),
(97, (Try.f97, ann97)),
(98, (Try.f98, ann98)),
(99, (Try.f99, ann99)),
(100, (Try.f100, ann100)),
(101, (Try.f101, ann101)),
(102, (Try.f102, ann102))]
def findF : List (Nat × (Func × Ann)) → Nat → Option (Func × Ann)
 | [], _ => none
 | (k, x) :: r, t => bif Nat.beq k t then some x else findF r t
def own : FuncId → Option Nat := fun f => bif Nat.beq f 94 then some 1 else bif Nat.beq f 95 then some 4 else none
noncomputable def other : FuncId → Option ((FuncId → List AV → M AV) → List AV → M AV) := fun f =>
 bif Nat.beq f 39 then some (cloneH T 23) else bif Nat.beq f 40 then some (tryE 33 .i64 (.agg [.int .i64 0, .int .i64 0, .sl [], .sl []])) else bif Nat.beq f 96 then some (cloneV T 25) else none
noncomputable def pg : Pg := { T := T, funcs := findF tabF, own := own, other := other, nw := fun f => bif Nat.beq f 39 then true else false }
theorem hOther : OtherLim pg := by
 intro f E hE call calls hc
 have h0 : other f = some E := hE
 unfold other at h0
 rcases other_bif h0 with rfl | h0
 ·exact cloneH_lim _ _ _ _
 rcases other_bif h0 with rfl | h0
 ·exact tryE_lim _ _ _ _ _ hc
 rcases other_bif h0 with rfl | h0
 ·exact cloneV_lim _ _ _ _
 cases h0
end Go.Proofs.Ytgbopmciiadmlaa

namespace Go.Proofs.Ytgbopmciiadmlaa
open Go Go.Av
set_option maxRecDepth 1000000
instance dr0 : Dr := ⟨False⟩
theorem tab_ok : (tab.map fun x => tiOf Try.prog x.1) = tab.map fun x => some x.2 := by kernel_rfl
theorem findT_mem : (l : List (Nat × TI)) → (t : Nat) → (ti : TI) → findT l t = some ti → (t, ti) ∈ l
 | [], t, ti, h => by cases h
 | (k, x) :: r, t, ti, h => by
  simp only [findT] at h
  cases hk : Nat.beq k t with
  | true =>
   rw [hk] at h
   simp only [cond_true, Option.some.injEq] at h
   have := Nat.eq_of_beq_eq_true hk
   subst this h
   exact List.mem_cons_self
  | false =>
   rw [hk] at h
   exact List.mem_cons_of_mem _ (findT_mem r t ti h)
theorem mem_of_map {α β : Type} {f g : α → β} : {l : List α} → l.map f = l.map g → ∀ x ∈ l, f x = g x
 | [], _, x, hx => by cases hx
 | a :: l, h, x, hx => by
  simp only [List.map_cons, List.cons.injEq] at h
  rcases List.mem_cons.1 hx with rfl | hx
  ·exact h.1
  ·exact mem_of_map h.2 x hx
theorem tok : TOK Try.prog T := ⟨fun t ti h => mem_of_map tab_ok (t, ti) (findT_mem tab t ti h), by kernel_rfl⟩
theorem tabF_ok : (tabF.map fun x => Try.prog.funcs[x.1]?) = tabF.map fun x => some x.2.1 := by kernel_rfl
theorem tabF_names : (tabF.map fun x => x.2.1.name == "runtime.NumGoroutine") = tabF.map fun _ => false := by kernel_rfl
theorem findF_mem : (l : List (Nat × (Func × Ann))) → (t : Nat) → (x : Func × Ann) → findF l t = some x → (t, x) ∈ l
 | [], t, ti, h => by cases h
 | (k, x) :: r, t, ti, h => by
  simp only [findF] at h
  cases hk : Nat.beq k t with
  | true =>
   rw [hk] at h
   simp only [cond_true, Option.some.injEq] at h
   have := Nat.eq_of_beq_eq_true hk
   subst this h
   exact List.mem_cons_self
  | false =>
   rw [hk] at h
   exact List.mem_cons_of_mem _ (findF_mem r t ti h)
theorem funcs_ok : ∀ f fn a, pg.funcs f = some (fn, a) → Try.prog.funcs[f]? = some fn ∧ (fn.name == "runtime.NumGoroutine") = false := by
 intro f fn a h
 have := findF_mem tabF f (fn, a) h
 exact ⟨mem_of_map tabF_ok _ this, mem_of_map tabF_names _ this⟩
end Go.Proofs.Ytgbopmciiadmlaa

namespace Go.Proofs.Ytgbopmciiadmlaa
open Go Go.Av
set_option maxRecDepth 100000
noncomputable def cx0 (n : Nat) (a : Ann) : Cx := { T := T, call := fun _ _ => M.fail, own := own, iso := fun _ => false, nw := fun _ => false, nt := n, ann := a }
theorem cx0_calls (n : Nat) (a : Ann) : CallsOK Try.prog (cx0 n a).own (cx0 n a).call := fun _f _args _h _S _β _w _vs hr => absurd rfl hr
theorem cx0_iso (n : Nat) (a : Ann) : IsoCall (cx0 n a) := ⟨fun _f _args h => Bool.noConfusion h, fun _f _args h => Bool.noConfusion h⟩
theorem e39a (e : AV) (es : List AV) : evBody (cx0 Try.f39.ntmps ann39) (fixM 0) Try.f39 none [.sl (e :: es)] = bnd (appH T 23 true (.sl []) (.sl (e :: es))) fun v => bnd (lft (some v)) M.pure := by kernel_rfl
theorem e39b : evBody (cx0 Try.f39.ntmps ann39) (fixM 0) Try.f39 none [.hn] = bnd (lft (some (.sl []))) M.pure := by kernel_rfl
theorem e39c (l off : Nat) : evBody (cx0 Try.f39.ntmps ann39) (fixM 0) Try.f39 none [.hs l off 0 1 false] = bnd (appH T 23 true (.sl []) (.hs l off 0 1 false)) fun v => bnd (lft (some v)) M.pure := by kernel_rfl
theorem e96a (e : AV) (es : List AV) : evBody (cx0 Try.f96.ntmps ann96) (fixM 0) Try.f96 none [.sl (e :: es)] = bnd (lft (appA T 25 (.sl []) (.sl (e :: es)))) fun v => bnd (lft (some v)) M.pure := by kernel_rfl
theorem e96b : evBody (cx0 Try.f96.ntmps ann96) (fixM 0) Try.f96 none [.hn] = bnd (lft (some (.sl []))) M.pure := by kernel_rfl
theorem e96c (l off : Nat) : evBody (cx0 Try.f96.ntmps ann96) (fixM 0) Try.f96 none [.hs l off 0 1 false] = bnd (lft (appA T 25 (.sl []) (.hs l off 0 1 false))) fun v => bnd (lft (some v)) M.pure := by kernel_rfl
theorem e96d (l off : Nat) : appA T 25 (.sl []) (.hs l off 0 1 false) = some (.sl []) := by rfl
theorem oth39 (call : FuncId → List AV → M AV) (args : List AV) (h : Hp) (S : Stab) (β : List Blk) (w : World) (vs : List Value) (hr : cloneH T 23 call args h ≠ .fail) (hg : GOK β h w) (hw : Wf S w) (hh : HeapX S β w h) (hv : VRs S β args vs) :
  Calls Try.prog 39 vs.toArray w (CPost none S β h w (cloneH T 23 call args h)) := by
 have key : ∀ es, args = [.sl es] → Calls Try.prog 39 vs.toArray w (CPost none S β h w (cloneH T 23 call args h)) := by
  rintro es rfl
  exact (clone_sound (cx := cx0 Try.f39.ntmps ann39) (E := fun es h => cloneH T 23 call [.sl es] h) tok (cx0_calls _ _) (cx0_iso _ _) Try.func39 rfl (fun h => by rfl) (fun e es h => by rw [e39a]; exact congrFun (bnd_id _) h) (fun h => by rw [e39b]; rfl) (fun l off h => by rw [e39c]; rfl) hr hg hw hh hv).1
 unfold cloneH at hr
 split at hr
 ·exact key _ rfl
 ·exact absurd rfl hr
theorem oth96 (call : FuncId → List AV → M AV) (args : List AV) (h : Hp) (S : Stab) (β : List Blk) (w : World) (vs : List Value) (hr : cloneV T 25 call args h ≠ .fail) (hg : GOK β h w) (hw : Wf S w) (hh : HeapX S β w h) (hv : VRs S β args vs) :
  Calls Try.prog 96 vs.toArray w (CPost none S β h w (cloneV T 25 call args h)) := by
 have key : ∀ es, args = [.sl es] → Calls Try.prog 96 vs.toArray w (CPost none S β h w (cloneV T 25 call args h)) := by
  rintro es rfl
  exact (clone_sound (cx := cx0 Try.f96.ntmps ann96) (E := fun es h => cloneV T 25 call [.sl es] h) tok (cx0_calls _ _) (cx0_iso _ _) Try.func96 rfl (fun h => by rfl) (fun e es h => by rw [e96a]; exact congrFun (bnd_id _) h) (fun h => by rw [e96b]; rfl) (fun l off h => by rw [e96c, e96d]; rfl) hr hg hw hh hv).1
 unfold cloneV at hr
 split at hr
 ·exact key _ rfl
 ·exact absurd rfl hr
end Go.Proofs.Ytgbopmciiadmlaa

namespace Go.Proofs.Ytgbopmciiadmlaa
open Go Go.Av
set_option maxRecDepth 100000
theorem bif_cases {α : Type} {f k : Nat} {x : α} {o : Option α} {y : α} (h : (bif Nat.beq f k then some x else o) = some y) : (f = k ∧ x = y) ∨ o = some y := by
 cases hb : Nat.beq f k with
 | true => rw [hb] at h; exact .inl ⟨Nat.eq_of_beq_eq_true hb, by simpa using h⟩
 | false => rw [hb] at h; exact .inr h
def TryOK : Prop := ∀ call, CallsOK Try.prog own call → ∀ (args : List AV) (h : Hp) (S : Stab) (β : List Blk) (w : World) (vs : List Value), tryE 33 .i64 (.agg [.int .i64 0, .int .i64 0, .sl [], .sl []]) call args h ≠ .fail → GOK β h w → Wf S w → HeapX S β w h → VRs S β args vs →
 Calls Try.prog 40 vs.toArray w (CPost none S β h w (tryE 33 .i64 (.agg [.int .i64 0, .int .i64 0, .sl [], .sl []]) call args h))
theorem good_of (H : TryOK) : GoodPg Try.prog pg where
 tok := tok
 funcs := funcs_ok
 other := by
  intro f E hE call hC args h S β w vs hr hg hw hh hv
  have h0 : other f = some E := hE
  unfold other at h0
  rcases bif_cases h0 with ⟨rfl, rfl⟩ | h0
  ·exact ⟨oth39 call args h S β w vs hr hg hw hh hv, by kernel_rfl⟩
  rcases bif_cases h0 with ⟨rfl, rfl⟩ | h0
  ·exact ⟨H call hC args h S β w vs hr hg hw hh hv, by kernel_rfl⟩
  rcases bif_cases h0 with ⟨rfl, rfl⟩ | h0
  ·exact ⟨oth96 call args h S β w vs hr hg hw hh hv, by kernel_rfl⟩
  cases h0
 nw := by
  intro f hf
  have h0 : (bif Nat.beq f 39 then true else false) = true := hf
  cases hb : Nat.beq f 39 with
  | true =>
   have := Nat.eq_of_beq_eq_true hb
   subst this
   exact ⟨_, rfl, fun call args => cloneH_nw _ _ _ _⟩
  | false => rw [hb] at h0; cases h0
end Go.Proofs.Ytgbopmciiadmlaa

namespace Go.Proofs.Ytgbopmciiadmlaa
open Go Go.Av
theorem catch_idle (p q : Addr) (w : World) : CallsD Try.prog 68 #[.pointer (some p), .pointer (some q)] .returning w fun e u' w' => e = .returned (.tuple #[]) ∧ u' = .returning ∧ w' = w := by
 refine callsD_of_wpS Try.func68 rfl fun c₀ cs hu => ?_
 apply wpS_seq
 apply wpS_region
 simp [wpOpsS, go_sem, recoverD, hu, Try.ntmps68, Exit.thenS]
 refine wpS_of_wp ?_
 go_wp2
 cases c₀
 simp_all [bodyPostS, results, Try.results68]
theorem assert33 (n : Int) (w : World) : (Instr.typeAssert (.iface 33 (.int .i64 n)) 20 33 true).run Try.prog w = .ok (.tuple #[.int .i64 n, .bool true]) w := by kernel_rfl
theorem buildV (w : World) : (Instr.build 39 #[]).run Try.prog w = .ok (.agg #[.int .i64 0, .int .i64 0, .slice none 0 0, .slice none 0 0]) w := by
 obtain ⟨v, h1, h2⟩ := build_ok (P := Try.prog) (T := T) (w := w) (S := fun _ _ => none) (β := []) (told := true) (t := 39) (parts := []) (r := .agg [.int .i64 0, .int .i64 0, .hn, .hn]) (qs := #[]) tok rfl rfl
 rw [h1]
 simp only [VR, VRs] at h2
 obtain ⟨vs, rfl, a, _, rfl, rfl, b, _, rfl, rfl, c, _, rfl, rfl, d, _, rfl, rfl, rfl⟩ := h2
 rfl
set_option maxHeartbeats 4000000 in
set_option maxRecDepth 100000 in
theorem catch_pan (b c : Nat) (x0 x1 x2 x3 y0 : Value) (n : Int) (w : World) (c0 : w.cell? ⟨b, 0, none⟩ = some x0) (c1 : w.cell? ⟨b, 1, none⟩ = some x1) (c2 : w.cell? ⟨b, 2, none⟩ = some x2) (c3 : w.cell? ⟨b, 3, none⟩ = some x3)
  (d0 : w.cell? ⟨c, 0, none⟩ = some y0) (f0 : w.frozen? ⟨b, 0, none⟩ = false) (f1 : w.frozen? ⟨b, 1, none⟩ = false) (f2 : w.frozen? ⟨b, 2, none⟩ = false) (f3 : w.frozen? ⟨b, 3, none⟩ = false) (g0 : w.frozen? ⟨c, 0, none⟩ = false) (_hne : ¬ b = c) (hne' : ¬ c = b) :
  CallsD Try.prog 68 #[.pointer (some ⟨b, 0, none⟩), .pointer (some ⟨c, 0, none⟩)] (.panicking [{ v := .iface 33 (.int .i64 n), recovered := false }]) w fun e u' w' =>
   e = .returned (.tuple #[]) ∧ u' = .panicking [{ v := .iface 33 (.int .i64 n), recovered := true }] ∧ w' = ((((w.setCell ⟨b, 0, none⟩ (.int .i64 0)).setCell ⟨b, 1, none⟩ (.int .i64 0)).setCell ⟨b, 2, none⟩ (.slice none 0 0)).setCell ⟨b, 3, none⟩ (.slice none 0 0)).setCell ⟨c, 0, none⟩ (.int .i64 n) := by
 refine callsD_of_wpS Try.func68 rfl fun c₀ cs hu => ?_
 apply wpS_seq
 apply wpS_region
 simp [wpOpsS, go_sem, recoverD, hu, Try.ntmps68, Exit.thenS]
 refine wpS_of_wp ?_
 have h1 := assert33 n
 have h2 := buildV
 go_wp2
 cases c₀
 simp_all [bodyPostS, results, Try.results68]
end Go.Proofs.Ytgbopmciiadmlaa

namespace Go.Proofs.Ytgbopmciiadmlaa
open Go Go.Av
set_option maxRecDepth 100000
def tryW (w : World) : World := (w.alloc (Obj.cells #[Value.int IntKind.i64 0, Value.int IntKind.i64 0, Value.slice none 0 0, Value.slice none 0 0] 39)).alloc (Obj.cells #[Value.int IntKind.i64 0] 33)
def tryS (w w' : World) (u0 u1 u2 u3 e : Value) : World := ((((w'.setCell ⟨w.heap.size, 0, none⟩ u0).setCell ⟨w.heap.size, 1, none⟩ u1).setCell ⟨w.heap.size, 2, none⟩ u2).setCell ⟨w.heap.size, 3, none⟩ u3).setCell ⟨w.heap.size + 1, 0, none⟩ e
def tryR (w : World) (R : Ending → World → Prop) : Ending → World → Prop := fun e w' =>
 w'.heap[w.heap.size]? = (tryW w).heap[w.heap.size]? ∧ w'.heap[w.heap.size + 1]? = (tryW w).heap[w.heap.size + 1]? ∧
 ((∃ u0 u1 u2 u3 : Value, u0.oneCell' = true ∧ u1.oneCell' = true ∧ u2.oneCell' = true ∧ u3.oneCell' = true ∧ e = .returned (.agg #[u0, u1, u2, u3]) ∧ R (.returned (.tuple #[.agg #[u0, u1, u2, u3], .int .i64 0])) (tryS w w' u0 u1 u2 u3 (.int .i64 0))) ∨
  ∃ n, e = .panicked [{ v := .iface 33 (.int .i64 n), recovered := false }] ∧ R (.returned (.tuple #[.agg #[.int .i64 0, .int .i64 0, .slice none 0 0, .slice none 0 0], .int .i64 n])) (tryS w w' (.int .i64 0) (.int .i64 0) (.slice none 0 0) (.slice none 0 0) (.int .i64 n)))
set_option maxHeartbeats 4000000 in
theorem try_walk (g : FuncId) (x y : Array Value) (w : World) (R : Ending → World → Prop) (hfn : (Try.prog.funcs[g]?).any (fun fn => fn.body.isSome && !(fn.name == "runtime.NumGoroutine")) = true)
  (hc : Calls Try.prog g (x ++ y) (tryW w) (tryR w R)) : Calls Try.prog 40 #[.func (.func g) x y] w R := by
 have hmf : ∀ (fn : Fn) (first cap : Array Value) (w : World), (Instr.makeFunc fn first cap).run Try.prog w = .ok (.func fn first cap) w := fun _ _ _ _ => rfl
 go_enter_defers Try.func40, Try.ntmps40
 go_wp2
 rw [callFunc_run hfn, Oper.upon_enter]
 refine hc.mono fun e w' h => ?_
 obtain ⟨k0, k1, h⟩ := h
 have r0 : w'.heap[w.heap.size]? = some (.cells #[Value.int IntKind.i64 0, Value.int IntKind.i64 0, Value.slice none 0 0, Value.slice none 0 0] 39) := by rw [k0]; exact (heap_alloc_old _ _ (by simp)).trans (heap_alloc_new w _)
 have r1 : w'.heap[w.heap.size + 1]? = some (.cells #[Value.int IntKind.i64 0] 33) := by rw [k1]; have := heap_alloc_new (w.alloc (Obj.cells #[Value.int IntKind.i64 0, Value.int IntKind.i64 0, Value.slice none 0 0, Value.slice none 0 0] 39)) (Obj.cells #[Value.int IntKind.i64 0] 33); rwa [World.size_alloc] at this
 have c0 : w'.cell? ⟨w.heap.size, 0, none⟩ = some (.int .i64 0) := by simp [World.cell?, r0]
 have c1 : w'.cell? ⟨w.heap.size, 1, none⟩ = some (.int .i64 0) := by simp [World.cell?, r0]
 have c2 : w'.cell? ⟨w.heap.size, 2, none⟩ = some (.slice none 0 0) := by simp [World.cell?, r0]
 have c3 : w'.cell? ⟨w.heap.size, 3, none⟩ = some (.slice none 0 0) := by simp [World.cell?, r0]
 have d0 : w'.cell? ⟨w.heap.size + 1, 0, none⟩ = some (.int .i64 0) := by simp [World.cell?, r1]
 have f0 : w'.frozen? ⟨w.heap.size, 0, none⟩ = false := by simp [World.frozen?, r0]
 have f1 : w'.frozen? ⟨w.heap.size, 1, none⟩ = false := by simp [World.frozen?, r0]
 have f2 : w'.frozen? ⟨w.heap.size, 2, none⟩ = false := by simp [World.frozen?, r0]
 have f3 : w'.frozen? ⟨w.heap.size, 3, none⟩ = false := by simp [World.frozen?, r0]
 have g0 : w'.frozen? ⟨w.heap.size + 1, 0, none⟩ = false := by simp [World.frozen?, r1]
 clear k0 k1 r0 r1 hc hmf
 rcases h with ⟨u0, u1, u2, u3, o0, o1, o2, o3, rfl, hR⟩ | ⟨n, rfl, hR⟩
 ·simp only
  rename_i K1 hK1 K hK
  apply hK
  clear hK
  have hK1' := hK1
  clear hK1
  have s0 : ∀ a m (w : World), (store a u0 m).run Try.prog w = stored Try.prog w a u0 m := fun a m w => run_store _ w a u0 m o0
  have s1 : ∀ a m (w : World), (store a u1 m).run Try.prog w = stored Try.prog w a u1 m := fun a m w => run_store _ w a u1 m o1
  have s2 : ∀ a m (w : World), (store a u2 m).run Try.prog w = stored Try.prog w a u2 m := fun a m w => run_store _ w a u2 m o2
  have s3 : ∀ a m (w : World), (store a u3 m).run Try.prog w = stored Try.prog w a u3 m := fun a m w => run_store _ w a u3 m o3
  go_wp2
  change Leaves _ _ _ _ _ _ _
  refine leaves_cons (f := 68) (args := #[.pointer (some ⟨w.heap.size, 0, none⟩), .pointer (some ⟨w.heap.size + 1, 0, none⟩)]) (by simp) (by simp [go_sem]) ?_
  refine (catch_idle ⟨w.heap.size, 0, none⟩ ⟨w.heap.size + 1, 0, none⟩ _).mono ?_
  rintro e u' w'' ⟨rfl, rfl, rfl⟩
  simp only [Leaves, settle]
  refine ⟨_, ?_, hR⟩
  simp [results, Try.results40, go_sem, World.cell?_setCell_same, c0, c1, c2, c3, d0]
 ·change Leaves _ _ _ _ _ _ _
  refine leaves_cons (f := 68) (args := #[.pointer (some ⟨w.heap.size, 0, none⟩), .pointer (some ⟨w.heap.size + 1, 0, none⟩)]) (by simp) (by simp [go_sem]) ?_
  refine (catch_pan w.heap.size (w.heap.size + 1) _ _ _ _ _ n w' c0 c1 c2 c3 d0 f0 f1 f2 f3 g0 (by omega) (by omega)).mono ?_
  rintro e u' w'' ⟨rfl, rfl, rfl⟩
  simp only [settle]
  refine ⟨_, ?_, hR⟩
  simp [results, Try.results40, go_sem, World.cell?_setCell_same, c0, c1, c2, c3, d0]
end Go.Proofs.Ytgbopmciiadmlaa

namespace Go.Proofs.Ytgbopmciiadmlaa
open Go Go.Av
set_option maxRecDepth 100000
theorem tryW_size (w : World) : (tryW w).heap.size = w.heap.size + 2 := by simp [tryW]
theorem tryW_old (w : World) (b : Nat) (hb : b < w.heap.size) : (tryW w).heap[b]? = w.heap[b]? := by
 unfold tryW
 rw [heap_alloc_old _ _ (by simp; omega), heap_alloc_old _ _ hb]
theorem tryW_gro (w : World) : Gro w (tryW w) := (Gro.alloc w _ _).trans (Gro.alloc _ _ _)
theorem tryS_gro (w w' : World) (u0 u1 u2 u3 e : Value) : Gro w' (tryS w w' u0 u1 u2 u3 e) :=
 ((((Gro.setCell _ _ _).trans (Gro.setCell _ _ _)).trans (Gro.setCell _ _ _)).trans (Gro.setCell _ _ _)).trans (Gro.setCell _ _ _)
theorem tryS_same (w w' : World) (u0 u1 u2 u3 e : Value) (b : Nat) (hb : ¬ (w.heap.size ≤ b ∧ b < (tryW w).heap.size)) : (tryS w w' u0 u1 u2 u3 e).heap[b]? = w'.heap[b]? := by
 rw [tryW_size] at hb
 unfold tryS
 rw [setCell_heap (by simp; omega), setCell_heap (by simp; omega), setCell_heap (by simp; omega), setCell_heap (by simp; omega), setCell_heap (by simp; omega)]
theorem callV_inv {call : FuncId → List AV → M AV} {f : AV} {xs : List AV} {h : Hp} (hr : callV call f xs h ≠ .fail) : ∃ g a c, f = .fn (.func g) a c := by
 unfold callV at hr
 split at hr
 ·exact ⟨_, _, _, rfl⟩
 ·exact absurd rfl hr
theorem try_ok : TryOK := by
 intro call hC args h S β w vs hr hg hw hh hv
 have key : ∀ f, args = [f] → Calls Try.prog 40 vs.toArray w (CPost none S β h w (tryE 33 .i64 (.agg [.int .i64 0, .int .i64 0, .sl [], .sl []]) call args h)) := by
  rintro f rfl
  have ht : tryE 33 .i64 (.agg [.int .i64 0, .int .i64 0, .sl [], .sl []]) call [f] h = tryP 33 .i64 (.agg [.int .i64 0, .int .i64 0, .sl [], .sl []]) (callV call f [] h) := rfl
  rw [ht] at hr ⊢
  clear ht
  simp only [VRs] at hv
  obtain ⟨fv, _, rfl, hv, rfl⟩ := hv
  have hne : callV call f [] h ≠ .fail := fun e => by rw [e] at hr; exact hr rfl
  obtain ⟨g, a, c, rfl⟩ := callV_inv hne
  ·have hcv : callV call (.fn (.func g) a c) [] h = call g (a ++ [] ++ c) h := rfl
   rw [hcv] at hr hne ⊢
   simp only [VR] at hv
   obtain ⟨x, y, rfl, hx, hy⟩ := hv
   have hold := tryW_old w
   have hv2 : VRs S β (a ++ [] ++ c) (x ++ y) := by simpa using hx.append hy
   obtain ⟨hcall, hfn⟩ := hC g (a ++ [] ++ c) h S β (tryW w) (x ++ y) hne ⟨hg.1.mono fun b hb => hold b (Nat.lt_of_lt_of_le hb hg.1.lt), hg.2⟩ (hw.grow hold) (hh.grow hold) hv2
   refine try_walk g x.toArray y.toArray w _ hfn ?_
   have e : (x ++ y).toArray = x.toArray ++ y.toArray := by simp
   rw [← e]
   refine hcall.mono fun en w' hp => ?_
   have kk : ∀ S' β' h', Go.Av.Left (HOwn β h) S β (tryW w) S' β' w' h' → w'.heap[w.heap.size]? = (tryW w).heap[w.heap.size]? ∧ w'.heap[w.heap.size + 1]? = (tryW w).heap[w.heap.size + 1]? := fun S' β' h' L =>
    ⟨(L.keep _ (by rw [tryW_size]; omega) fun ho => by have := hh.low ho; omega).1, (L.keep _ (by rw [tryW_size]; omega) fun ho => by have := hh.low ho; omega).1⟩
   generalize call g (a ++ [] ++ c) h = r at hr hne hp ⊢
   cases r with
   | fail => exact absurd rfl hne
   | ok v h' =>
    obtain ⟨S', β', u, rfl, hu, L, _⟩ := hp
    refine ⟨(kk _ _ _ L).1, (kk _ _ _ L).2, .inl ?_⟩
    simp only [tryP] at hr ⊢
    cases hok : okEl 4 v with
    | false => rw [hok] at hr; exact absurd rfl hr
    | true =>
     obtain ⟨g1, g2, g3⟩ := okEl_ok hok hu
     have hcs : ∃ cs, v = .agg cs := by
      simp only [okEl, Bool.and_eq_true] at hok
      have h1 := hok.1
      cases v <;> simp [sizeA] at h1
      exact ⟨_, rfl⟩
     obtain ⟨cs, rfl⟩ := hcs
     simp only [VR] at hu
     obtain ⟨us, rfl, hus⟩ := hu
     simp only [Value.cells] at g1 g3
     match us, g1 with
     | [u0, u1, u2, u3], _ =>
      refine ⟨u0, u1, u2, u3, g3 u0 (by simp), g3 u1 (by simp), g3 u2 (by simp), g3 u3 (by simp), rfl, S', β', _, rfl, ?_, left_wrap (tryW_gro w) hold L (tryS_gro ..) (fun b hb => tryS_same w w' _ _ _ _ _ b hb) hw hh, fun sz hsz => by cases hsz⟩
      simp only [VR, VRs]
      exact ⟨[.agg #[u0, u1, u2, u3], .int .i64 0], rfl, _, _, rfl, ⟨[u0, u1, u2, u3], rfl, hus⟩, _, _, rfl, rfl, rfl⟩
   | pan v h' =>
    obtain ⟨S', β', u, rfl, hu, L⟩ := hp
    refine ⟨(kk _ _ _ L).1, (kk _ _ _ L).2, .inr ?_⟩
    unfold tryP at hr ⊢
    split at hr
    ·rename_i heq; cases heq
    ·rename_i t' k' n h'' heq
     cases heq
     cases hb : (Nat.beq t' 33 && decide (k' = IntKind.i64)) with
     | false => rw [hb] at hr; exact absurd rfl hr
     | true =>
      simp only [Bool.and_eq_true, decide_eq_true_eq] at hb
      obtain ⟨hb1, rfl⟩ := hb
      have := Nat.eq_of_beq_eq_true hb1
      subst this
      simp only [VR] at hu
      obtain ⟨u', rfl, rfl⟩ := hu
      refine ⟨n, rfl, S', β', _, rfl, ?_, left_wrap (tryW_gro w) hold L (tryS_gro ..) (fun b hb => tryS_same w w' _ _ _ _ _ b hb) hw hh, fun sz hsz => by cases hsz⟩
      simp only [VR, VRs]
      refine ⟨[.agg #[.int .i64 0, .int .i64 0, .slice none 0 0, .slice none 0 0], .int .i64 n], rfl, _, _, rfl, ⟨[.int .i64 0, .int .i64 0, .slice none 0 0, .slice none 0 0], rfl, _, _, rfl, rfl, _, _, rfl, rfl, _, _, rfl, ?_, _, _, rfl, ?_, rfl⟩, _, _, rfl, rfl, rfl⟩
      ·exact ⟨none, 0, rfl, Nat.le_refl _, fun _ => rfl, fun q hq => by cases hq⟩
      ·exact ⟨none, 0, rfl, Nat.le_refl _, fun _ => rfl, fun q hq => by cases hq⟩
    ·exact absurd rfl hr
 rcases args with _ | ⟨f, _ | ⟨f2, r⟩⟩
 ·exact absurd rfl hr
 ·exact key _ rfl
 ·exact absurd rfl hr
theorem good : GoodPg Try.prog pg := good_of try_ok
end Go.Proofs.Ytgbopmciiadmlaa

namespace Go.Proofs.Ytgbopmciiadmlaa
open Go Go.Av Go.Av.Ap Go.RowKit
set_option maxRecDepth 1000000
section
variable {H : Type} {enc : TypeId × Value → H} {W : World}
theorem reach_eq : reachBytes = 140737488351232 := rfl
theorem rd_strs (N : Nat) : Rd enc Try.prog W N 25 (fun l : List Str => [strs l]) (fun l => l.length ≤ 8796093022208) :=
 (rd_slice (rd_str Try.underlying9) Try.underlying25 (by kernel_rfl : _ = 1) (by decide) (by kernel_rfl : _ = 16) (elOf_one fun _ => rfl)).map id (fun _ => rfl) (fun l h => by have := h.1; rw [reach_eq] at this; simp only [id]; omega)
theorem rd_ints (N : Nat) : Rd enc Try.prog W N 24 (fun l : List Int => [ints l]) (fun l => l.length ≤ 140737488355328) :=
 (rd_slice (rd_int Try.underlying3) Try.underlying24 (by kernel_rfl : _ = 1) (by decide) (by kernel_rfl : _ = 8) (elOf_one fun _ => rfl)).map id (fun _ => rfl) (fun l h => by have := h.1; rw [reach_eq] at this; simp only [id]; omega)
theorem Val.lim_mk {k n : Int} {ns : List Str} {vs : List Val} (h1 : ns.length ≤ 140737488355328) (h2 : vs.length ≤ 140737488355328) (h3 : ∀ v ∈ vs, v.Lim) : (Val.mk k n ns vs).Lim := fun j => match j with
 | 0 => trivial
 | j + 1 => ⟨h1, h2, fun x hx => h3 x hx j⟩
theorem Exp.lim_mk {o n : Int} {s m : Str} {ns : List Str} {es : List Exp} (h1 : ns.length ≤ 8796093022208) (h2 : es.length ≤ 140737488355328) (h3 : ∀ v ∈ es, v.Lim) : (Exp.mk o n s m ns es).Lim := fun j => match j with
 | 0 => trivial
 | j + 1 => ⟨h1, h2, fun x hx => h3 x hx j⟩
theorem Ty.lim_mk {k : Int} {fs : List Fld} (h2 : fs.length ≤ 140737488355328) (h3 : ∀ v ∈ fs, v.2.Lim) : (Ty.mk k fs).Lim := fun j => match j with
 | 0 => trivial
 | j + 1 => ⟨h2, fun x hx => h3 x hx j⟩
theorem rd_vals_of {N : Nat} (h : Rd enc Try.prog W N 39 (fun v : Val => acells v.av) Val.Lim) : Rd enc Try.prog W N 23 (fun l : List Val => [vals l]) (fun l => l.length ≤ 140737488355328 ∧ ∀ v ∈ l, v.Lim) :=
 (rd_slice h Try.underlying23 (by kernel_rfl : _ = 4) (by decide) (by kernel_rfl : _ = 64) (ev := Val.av) (elOf_agg' fun v => by rw [v.av_eq]; rfl)).map id (fun l => by simp [vals, valsAv_map]) (fun l h => ⟨by have := h.1; rw [reach_eq] at this; simp only [id]; omega, h.2⟩)
theorem rd_val : ∀ N, Rd enc Try.prog W N 39 (fun v : Val => acells v.av) Val.Lim
 | 0 => .zero
 | N + 1 => (rd_struct Try.underlying39 (by kernel_rfl) (rdFs_cons (rd_int Try.underlying3) rfl (by kernel_rfl : _ = 1) (rdFs_cons (rd_int Try.underlying3) rfl (by kernel_rfl : _ = 1) (rdFs_cons (rd_strs N) rfl (by kernel_rfl : _ = 1)
   (rdFs_cons (rd_vals_of (rd_val N)) rfl (by kernel_rfl : _ = 1) rdFs_nil))))).map (fun x => Val.mk x.1 x.2.1 x.2.2.1 x.2.2.2.1) (fun x => by simp [Val.av_eq, acells]) (fun x h => Val.lim_mk (by have := h.2.2.1; omega) h.2.2.2.1.1 h.2.2.2.1.2)
theorem rd_vals (N : Nat) : Rd enc Try.prog W N 23 (fun l : List Val => [vals l]) (fun l => l.length ≤ 140737488355328 ∧ ∀ v ∈ l, v.Lim) := rd_vals_of (rd_val N)
theorem rd_exps_of {N : Nat} (h : Rd enc Try.prog W N 28 (fun v : Exp => v.cells) Exp.Lim) : Rd enc Try.prog W N 26 (fun l : List Exp => [exps l]) (fun l => l.length ≤ 140737488355328 ∧ ∀ v ∈ l, v.Lim) :=
 (rd_slice h Try.underlying26 (by kernel_rfl : _ = 6) (by decide) (by kernel_rfl : _ = 96) (ev := Exp.av) (elOf_agg' fun v => rfl)).map id (fun l => by simp [exps, expsAv_map]) (fun l h => ⟨by have := h.1; rw [reach_eq] at this; simp only [id]; omega, h.2⟩)
theorem rd_exp : ∀ N, Rd enc Try.prog W N 28 (fun v : Exp => v.cells) Exp.Lim
 | 0 => .zero
 | N + 1 => (rd_struct Try.underlying28 (by kernel_rfl) (rdFs_cons (rd_int Try.underlying3) rfl (by kernel_rfl : _ = 1) (rdFs_cons (rd_int Try.underlying3) rfl (by kernel_rfl : _ = 1) (rdFs_cons (rd_str Try.underlying9) rfl (by kernel_rfl : _ = 1) (rdFs_cons (rd_str Try.underlying9) rfl (by kernel_rfl : _ = 1)
   (rdFs_cons (rd_strs N) rfl (by kernel_rfl : _ = 1) (rdFs_cons (rd_exps_of (rd_exp N)) rfl (by kernel_rfl : _ = 1) rdFs_nil))))))).map (fun x => Exp.mk x.1 x.2.1 x.2.2.1 x.2.2.2.1 x.2.2.2.2.1 x.2.2.2.2.2.1) (fun x => by simp [Exp.cells_eq, Exp.op, Exp.n, Exp.s, Exp.m, Exp.names, Exp.args]) (fun x h => Exp.lim_mk h.2.2.2.2.1 h.2.2.2.2.2.1.1 h.2.2.2.2.2.1.2)
theorem rd_exps (N : Nat) : Rd enc Try.prog W N 26 (fun l : List Exp => [exps l]) (fun l => l.length ≤ 140737488355328 ∧ ∀ v ∈ l, v.Lim) := rd_exps_of (rd_exp N)
theorem rd_flds_of {N : Nat} (h : Rd enc Try.prog W N 65 (fun v : Ty => v.cells) Ty.Lim) : Rd enc Try.prog W (N + 1) 58 (fun l : List Fld => [flds l]) (fun l => l.length ≤ 140737488355328 ∧ ∀ v ∈ l, v.2.Lim) :=
 (rd_slice ((rd_struct Try.underlying104 (by kernel_rfl) (rdFs_cons (rd_str Try.underlying9) rfl (by kernel_rfl : _ = 1) (rdFs_cons h rfl (by kernel_rfl : _ = 2) rdFs_nil))).map (fun x => ((x.1, x.2.1) : Fld)) (cells' := fun f => acells (fldAv f)) (Ok' := fun f => f.2.Lim) (fun x => by simp [Ty.cells_eq]) (fun x h => h.2.1))
  Try.underlying58 (by kernel_rfl : _ = 3) (by decide) (by kernel_rfl : _ = 48) (ev := fldAv) (elOf_agg' fun v => by rw [fldAv_eq]; rfl)).map id (fun l => by simp [flds, fldsAv_map]) (fun l h => ⟨by have := h.1; rw [reach_eq] at this; simp only [id]; omega, h.2⟩)
theorem rd_ty : ∀ N, Rd enc Try.prog W N 65 (fun v : Ty => v.cells) Ty.Lim
 | 0 => .zero
 | N + 1 => (rd_struct Try.underlying65 (by kernel_rfl) (rdFs_cons (rd_int Try.underlying3) rfl (by kernel_rfl : _ = 1) (rdFs_cons ((rd_flds_of (rd_ty N)).le (Nat.le_succ N)) rfl (by kernel_rfl : _ = 1) rdFs_nil))).map (fun x => Ty.mk x.1 x.2.1)
   (fun x => by simp [Ty.cells_eq, Ty.kind, Ty.fields]) (fun x h => Ty.lim_mk h.2.1.1 h.2.1.2)
theorem rd_flds (N : Nat) : Rd enc Try.prog W N 58 (fun l : List Fld => [flds l]) (fun l => l.length ≤ 140737488355328 ∧ ∀ v ∈ l, v.2.Lim) := (rd_flds_of (rd_ty N)).le (Nat.le_succ N)
theorem rd_fun (N : Nat) : Rd enc Try.prog W (N + 1) 67 (fun f : Fun => acells f.av) Fun.Lim :=
 (rd_struct Try.underlying67 (by kernel_rfl) (rdFs_cons (rd_str Try.underlying9) rfl (by kernel_rfl : _ = 1) (rdFs_cons (rd_bool Try.underlying4) rfl (by kernel_rfl : _ = 1) (rdFs_cons (rd_flds N) rfl (by kernel_rfl : _ = 1) (rdFs_cons (rd_ty N) rfl (by kernel_rfl : _ = 2)
  (rdFs_cons (rd_int Try.underlying3) rfl (by kernel_rfl : _ = 1) (rdFs_cons (rd_exp N) rfl (by kernel_rfl : _ = 6) rdFs_nil))))))).map (fun x => (⟨x.1, x.2.1, x.2.2.1, x.2.2.2.1, x.2.2.2.2.1, x.2.2.2.2.2.1⟩ : Fun))
  (fun x => by simp [Ty.cells_eq, Exp.cells_eq]) (fun x h => ⟨h.2.2.1.1, h.2.2.1.2, h.2.2.2.1, h.2.2.2.2.2.1⟩)
theorem rd_funs (N : Nat) : Rd enc Try.prog W N 59 (fun l : List Fun => [funs l]) (fun l => l.length ≤ 140737488355328 ∧ ∀ v ∈ l, v.Lim) :=
 ((rd_slice (rd_fun N) Try.underlying59 (by kernel_rfl : _ = 12) (by decide) (by kernel_rfl : _ = 184) (ev := Fun.av) (elOf_agg' fun v => rfl)).map id (fun l => by simp [funs]) (fun l h => ⟨by have := h.1; rw [reach_eq] at this; simp only [id]; omega, h.2⟩)).le (Nat.le_succ N)
theorem rd_mod (N : Nat) : Rd enc Try.prog W (N + 1) 63 (fun m : Mod => acells m.av) Mod.Lim :=
 (rd_struct Try.underlying63 (by kernel_rfl) (rdFs_cons (rd_str Try.underlying9) rfl (by kernel_rfl : _ = 1) (rdFs_cons (rd_strs N) rfl (by kernel_rfl : _ = 1) (rdFs_cons (rd_flds N) rfl (by kernel_rfl : _ = 1) (rdFs_cons (rd_exps N) rfl (by kernel_rfl : _ = 1)
  (rdFs_cons (rd_funs N) rfl (by kernel_rfl : _ = 1) (rdFs_cons (rd_bool Try.underlying4) rfl (by kernel_rfl : _ = 1)
  (rdFs_cons ((rd_struct Try.underlying61 (by kernel_rfl) (rdFs_cons (rd_flds N) rfl (by kernel_rfl : _ = 1) (rdFs_cons (rd_exps N) rfl (by kernel_rfl : _ = 1) (rdFs_cons (rd_exps N) rfl (by kernel_rfl : _ = 1) rdFs_nil)))).le (Nat.le_succ N)) rfl (by kernel_rfl : _ = 3) rdFs_nil)))))))).map
  (fun x => (⟨x.1, x.2.1, x.2.2.1, x.2.2.2.1, x.2.2.2.2.1, x.2.2.2.2.2.1, x.2.2.2.2.2.2.1.1, x.2.2.2.2.2.2.1.2.1, x.2.2.2.2.2.2.1.2.2.1⟩ : Mod))
  (fun x => by simp) (fun x h => ⟨by have := h.2.1; simp only; omega, h.2.2.1.1, h.2.2.1.2, h.2.2.2.1.1, h.2.2.2.1.2, h.2.2.2.2.1.1, h.2.2.2.2.1.2, h.2.2.2.2.2.2.1.1.1, h.2.2.2.2.2.2.1.1.2, h.2.2.2.2.2.2.1.2.1.1, h.2.2.2.2.2.2.1.2.1.2, h.2.2.2.2.2.2.1.2.2.1.1, h.2.2.2.2.2.2.1.2.2.1.2⟩)
theorem rd_mods (N : Nat) : Rd enc Try.prog W N 22 (fun l : List Mod => [mods l]) (fun l => l.length ≤ 140737488355328 ∧ ∀ v ∈ l, v.Lim) :=
 ((rd_slice (rd_mod N) Try.underlying22 (by kernel_rfl : _ = 9) (by decide) (by kernel_rfl : _ = 192) (ev := Mod.av) (elOf_agg' fun v => rfl)).map id (fun l => by simp [mods]) (fun l h => ⟨by have := h.1; rw [reach_eq] at this; simp only [id]; omega, h.2⟩)).le (Nat.le_succ N)
end
end Go.Proofs.Ytgbopmciiadmlaa

namespace Go.Proofs.Ytgbopmciiadmlaa
open Go Go.Av
set_option maxRecDepth 100000
noncomputable def L8_0 (call : CC) (_fx : Fix AV) (v13 : List AV → M AV) (v57 : List AV → M AV) (v58 : List AV) : M AV :=
 bnd (lft (indexAddrA T 22 (nth v58 0) (nth v58 2))) fun v59 =>
 bnd (lft (fieldAddrA T 63 v59 4)) fun v60 =>
 bnd (lft (loadA T 59 v60)) fun v61 =>
 bnd (lft (lenA T 59 v61)) fun v62 =>
 bnd (lft (binA T .lss 3 (nth v58 3) v62)) fun v63 =>
 condM v63 (bnd (lft (indexAddrA T 22 (nth v58 0) (nth v58 2))) fun v64 =>
 bnd (lft (fieldAddrA T 63 v64 4)) fun v65 =>
 bnd (lft (loadA T 59 v65)) fun v66 =>
 bnd (lft (indexAddrA T 59 v66 (nth v58 3))) fun v67 =>
 bnd (lft (fieldAddrA T 67 v67 5)) fun v68 =>
 bnd (lft (loadA T 28 v68)) fun v69 =>
 bnd (call 9 [v69, AV.int .i64 40, AV.int .i64 16]) fun v70 =>
 bnd (lft (binA T .gtr 3 v70 (AV.int .i64 40))) fun v71 =>
 bnd (guardM v71 false 1 (bnd (lft (indexAddrA T 22 (nth v58 0) (nth v58 2))) fun v72 =>
 bnd (lft (fieldAddrA T 63 v72 4)) fun v73 =>
 bnd (lft (loadA T 59 v73)) fun v74 =>
 bnd (lft (indexAddrA T 59 v74 (nth v58 3))) fun v75 =>
 bnd (lft (fieldAddrA T 67 v75 2)) fun v76 =>
 bnd (lft (loadA T 58 v76)) fun v77 =>
 bnd (lft (lenA T 58 v77)) fun v78 =>
 bnd (lft (binA T .gtr 3 v78 (AV.int .i64 8))) fun v79 =>
 M.pure [v79])) fun v80 =>
 bnd (lft (pickA v71 (AV.bool true) (nth v80 0))) fun v81 =>
 condM v81 (M.pure (AV.bool false)) (bnd (lft (binA T .add 3 (nth v58 3) (AV.int .i64 1))) fun v82 =>
 v57 [nth v58 0, nth v58 1, nth v58 2, v82])) (bnd (lft (binA T .add 3 (nth v58 2) (AV.int .i64 1))) fun v83 =>
 v13 [nth v58 0, nth v58 1, v83])
noncomputable def L8_1 (call : CC) (fx : Fix AV) (v13 : List AV → M AV) (v42 : List AV → M AV) (v43 : List AV) : M AV :=
 bnd (lft (indexAddrA T 22 (nth v43 0) (nth v43 2))) fun v44 =>
 bnd (lft (fieldAddrA T 63 v44 3)) fun v45 =>
 bnd (lft (loadA T 26 v45)) fun v46 =>
 bnd (lft (lenA T 26 v46)) fun v47 =>
 bnd (lft (binA T .lss 3 (nth v43 3) v47)) fun v48 =>
 condM v48 (bnd (lft (indexAddrA T 22 (nth v43 0) (nth v43 2))) fun v49 =>
 bnd (lft (fieldAddrA T 63 v49 3)) fun v50 =>
 bnd (lft (loadA T 26 v50)) fun v51 =>
 bnd (lft (indexAddrA T 26 v51 (nth v43 3))) fun v52 =>
 bnd (lft (loadA T 28 v52)) fun v53 =>
 bnd (call 9 [v53, AV.int .i64 40, AV.int .i64 16]) fun v54 =>
 bnd (lft (binA T .gtr 3 v54 (AV.int .i64 40))) fun v55 =>
 condM v55 (M.pure (AV.bool false)) (bnd (lft (binA T .add 3 (nth v43 3) (AV.int .i64 1))) fun v56 =>
 v42 [nth v43 0, nth v43 1, nth v43 2, v56])) (fx (L8_0 call fx v13) [nth v43 0, nth v43 1, nth v43 2, AV.int .i64 0])
noncomputable def L8_2 (call : CC) (_fx : Fix AV) (v84 : List AV → M AV) (v85 : List AV) : M AV :=
 bnd (lft (lenA T 23 (nth v85 0))) fun v86 =>
 bnd (lft (binA T .lss 3 (nth v85 1) v86)) fun v87 =>
 condM v87 (bnd (lft (indexAddrA T 23 (nth v85 0) (nth v85 1))) fun v88 =>
 bnd (lft (loadA T 39 v88)) fun v89 =>
 bnd (call 31 [v89, AV.int .i64 40, AV.int .i64 8]) fun v90 =>
 bnd (lft (binA T .gtr 3 v90 (AV.int .i64 40))) fun v91 =>
 condM v91 (M.pure (AV.bool false)) (bnd (lft (binA T .add 3 (nth v85 1) (AV.int .i64 1))) fun v92 =>
 v84 [nth v85 0, v92])) (M.pure (AV.bool true))
noncomputable def L8_3 (call : CC) (fx : Fix AV) (v13 : List AV → M AV) (v14 : List AV) : M AV :=
 bnd (lft (lenA T 22 (nth v14 0))) fun v15 =>
 bnd (lft (binA T .lss 3 (nth v14 2) v15)) fun v16 =>
 condM v16 (bnd (lft (indexAddrA T 22 (nth v14 0) (nth v14 2))) fun v17 =>
 bnd (lft (fieldAddrA T 63 v17 2)) fun v18 =>
 bnd (lft (loadA T 58 v18)) fun v19 =>
 bnd (lft (lenA T 58 v19)) fun v20 =>
 bnd (lft (binA T .gtr 3 v20 (AV.int .i64 4))) fun v21 =>
 bnd (guardM v21 false 1 (bnd (lft (indexAddrA T 22 (nth v14 0) (nth v14 2))) fun v22 =>
 bnd (lft (fieldAddrA T 63 v22 3)) fun v23 =>
 bnd (lft (loadA T 26 v23)) fun v24 =>
 bnd (lft (lenA T 26 v24)) fun v25 =>
 bnd (lft (binA T .gtr 3 v25 (AV.int .i64 6))) fun v26 =>
 M.pure [v26])) fun v27 =>
 bnd (lft (pickA v21 (AV.bool true) (nth v27 0))) fun v28 =>
 bnd (guardM v28 false 1 (bnd (lft (indexAddrA T 22 (nth v14 0) (nth v14 2))) fun v29 =>
 bnd (lft (fieldAddrA T 63 v29 4)) fun v30 =>
 bnd (lft (loadA T 59 v30)) fun v31 =>
 bnd (lft (lenA T 59 v31)) fun v32 =>
 bnd (lft (binA T .gtr 3 v32 (AV.int .i64 4))) fun v33 =>
 M.pure [v33])) fun v34 =>
 bnd (lft (pickA v28 (AV.bool true) (nth v34 0))) fun v35 =>
 bnd (guardM v35 false 1 (bnd (lft (indexAddrA T 22 (nth v14 0) (nth v14 2))) fun v36 =>
 bnd (lft (loadA T 63 v36)) fun v37 =>
 bnd (call 30 [v37]) fun v38 =>
 bnd (lft (unA UnOp.not v38)) fun v39 =>
 M.pure [v39])) fun v40 =>
 bnd (lft (pickA v35 (AV.bool true) (nth v40 0))) fun v41 =>
 condM v41 (M.pure (AV.bool false)) (fx (L8_1 call fx v13) [nth v14 0, nth v14 1, nth v14 2, AV.int .i64 0])) (fx (L8_2 call fx) [nth v14 1, AV.int .i64 0])
theorem XL8_0 {call : CC} {v13 : List AV → M AV} {v13s : Nat → List AV → M AV} (hv13 : LimF v13 fun n => v13s n) : Cont1 (L8_0 call fixW v13) fun n => L8_0 call fixW (v13s n) := by
 intro v57 v57s hself v58
 unfold L8_0
 exact (lb fun _ => (lb fun _ => (lb fun _ => (lb fun _ => (lb fun _ => (condM_lim (lb fun _ => (lb fun _ => (lb fun _ => (lb fun _ => (lb fun _ => (lb fun _ => (lb fun _ => (lb fun _ => (lb fun _ => (lb fun _ => (condM_lim (LimM.const _) (lb fun _ => (hself _))))))))))))) (lb fun _ => (hv13 _))))))))
theorem YL8_0 {call : CC} {v13 : List AV → M AV} {v13s : Nat → List AV → M AV} (hv13 : LimF v13 fun n => v13s n) : LimF (fixW (L8_0 call fixW v13)) fun n => fixW (L8_0 call fixW (v13s n)) := fixW_limF (XL8_0 hv13) (XL8_0 (LimF.const _)) fun _ => XL8_0 (LimF.const _)
theorem FL8_0 (call : CC) (v13 : List AV → M AV) (vs : List AV) : fixW (L8_0 call fixW v13) vs = L8_0 call fixW v13 (fixW (L8_0 call fixW v13)) vs := fixW_eq (XL8_0 (LimF.const _)) vs
theorem XL8_1 {call : CC} {v13 : List AV → M AV} {v13s : Nat → List AV → M AV} (hv13 : LimF v13 fun n => v13s n) : Cont1 (L8_1 call fixW v13) fun n => L8_1 call fixW (v13s n) := by
 intro v42 v42s hself v43
 unfold L8_1
 exact (lb fun _ => (lb fun _ => (lb fun _ => (lb fun _ => (lb fun _ => (condM_lim (lb fun _ => (lb fun _ => (lb fun _ => (lb fun _ => (lb fun _ => (lb fun _ => (lb fun _ => (condM_lim (LimM.const _) (lb fun _ => (hself _)))))))))) ((YL8_0 hv13) _)))))))
theorem YL8_1 {call : CC} {v13 : List AV → M AV} {v13s : Nat → List AV → M AV} (hv13 : LimF v13 fun n => v13s n) : LimF (fixW (L8_1 call fixW v13)) fun n => fixW (L8_1 call fixW (v13s n)) := fixW_limF (XL8_1 hv13) (XL8_1 (LimF.const _)) fun _ => XL8_1 (LimF.const _)
theorem FL8_1 (call : CC) (v13 : List AV → M AV) (vs : List AV) : fixW (L8_1 call fixW v13) vs = L8_1 call fixW v13 (fixW (L8_1 call fixW v13)) vs := fixW_eq (XL8_1 (LimF.const _)) vs
theorem XL8_2 {call : CC} : Cont1 (L8_2 call fixW ) fun _n => L8_2 call fixW  := by
 intro v84 v84s hself v85
 unfold L8_2
 exact (lb fun _ => (lb fun _ => (condM_lim (lb fun _ => (lb fun _ => (lb fun _ => (lb fun _ => (condM_lim (LimM.const _) (lb fun _ => (hself _))))))) (LimM.const _))))
theorem FL8_2 (call : CC) (vs : List AV) : fixW (L8_2 call fixW ) vs = L8_2 call fixW  (fixW (L8_2 call fixW )) vs := fixW_eq (XL8_2 ) vs
theorem XL8_3 {call : CC} : Cont1 (L8_3 call fixW ) fun _n => L8_3 call fixW  := by
 intro v13 v13s hself v14
 unfold L8_3
 exact (lb fun _ => (lb fun _ => (condM_lim (lb fun _ => (lb fun _ => (lb fun _ => (lb fun _ => (lb fun _ => (lb fun _ => (lb fun _ => (lb fun _ => (lb fun _ => (lb fun _ => (lb fun _ => (condM_lim (LimM.const _) ((YL8_1 hself) _))))))))))))) (LimM.const _))))
theorem FL8_3 (call : CC) (vs : List AV) : fixW (L8_3 call fixW ) vs = L8_3 call fixW  (fixW (L8_3 call fixW )) vs := fixW_eq (XL8_3 ) vs
noncomputable def S8 (call : CC) (fx : Fix AV) (a0 a1 a2 a3 : AV) : M AV :=
 bnd (lft (lenA T 22 a0)) fun v0 =>
 bnd (lft (binA T .gtr 3 v0 (AV.int .i64 4))) fun v1 =>
 bnd (guardM v1 false 1 (bnd (lft (lenA T 23 a1)) fun v2 =>
 bnd (lft (binA T .gtr 3 v2 (AV.int .i64 8))) fun v3 =>
 M.pure [v3])) fun v4 =>
 bnd (lft (pickA v1 (AV.bool true) (nth v4 0))) fun v5 =>
 bnd (guardM v5 false 1 (bnd (lft (lenA T 24 a2)) fun v6 =>
 bnd (lft (binA T .gtr 3 v6 (AV.int .i64 30))) fun v7 =>
 M.pure [v7])) fun v8 =>
 bnd (lft (pickA v5 (AV.bool true) (nth v8 0))) fun v9 =>
 bnd (guardM v9 false 1 (bnd (lft (binA T .gtr 3 a3 (AV.int .i64 2000))) fun v10 =>
 M.pure [v10])) fun v11 =>
 bnd (lft (pickA v9 (AV.bool true) (nth v11 0))) fun v12 =>
 condM v12 (M.pure (AV.bool false)) (fx (L8_3 call fx) [a0, a1, AV.int .i64 0])
theorem E8 (call : CC) (fx : Fix AV) (a0 a1 a2 a3 : AV) : evBody (pg.cx call Try.f8.ntmps ann8) fx Try.f8 (own 8) [a0, a1, a2, a3] = S8 call fx a0 a1 a2 a3 := by kernel_rfl
theorem C8 (a0 a1 a2 a3 : AV) : callW pg 8 [a0, a1, a2, a3] = isoP (S8 (callW pg) fixW (cl noHs a0) (cl noHs a1) (cl noHs a2) (cl noHs a3)) := (callW_iso hOther rfl rfl rfl _).trans (congrArg isoP (E8 _ _ (cl noHs a0) (cl noHs a1) (cl noHs a2) (cl noHs a3)))
noncomputable def S14 (call : CC) (_fx : Fix AV) (a0 a1 a2 a3 a4 a5 : AV) : M AV :=
 bnd (call 10 [a0]) fun v0 =>
 bnd (lft (extractA v0 0)) fun v1 =>
 bnd (lft (extractA v0 1)) fun v2 =>
 bnd (lft (binA T .neq 33 v2 (AV.int .i64 0))) fun v3 =>
 condM v3 (bnd (lft (buildA T false 43 [(0, v2)])) fun v4 =>
 bnd (cellsNil 8 [] v4) fun v5 =>
 M.pure (AV.agg [nth (acells v5) 0, nth (acells v5) 1, nth (acells v5) 2, nth (acells v5) 3, nth (acells v5) 4, nth (acells v5) 5, nth (acells v5) 6, nth (acells v5) 7])) (bnd (call 17 [a0, v1, a1, a2, a3, a4, a5]) fun v6 =>
 bnd (cellsNil 8 [] v6) fun v7 =>
 M.pure (AV.agg [nth (acells v7) 0, nth (acells v7) 1, nth (acells v7) 2, nth (acells v7) 3, nth (acells v7) 4, nth (acells v7) 5, nth (acells v7) 6, nth (acells v7) 7]))
theorem E14 (call : CC) (fx : Fix AV) (a0 a1 a2 a3 a4 a5 : AV) : evBody (pg.cx call Try.f14.ntmps ann14) fx Try.f14 (own 14) [a0, a1, a2, a3, a4, a5] = S14 call fx a0 a1 a2 a3 a4 a5 := by kernel_rfl
theorem C14 (a0 a1 a2 a3 a4 a5 : AV) : callW pg 14 [a0, a1, a2, a3, a4, a5] = isoP (S14 (callW pg) fixW (cl noHs a0) (cl noHs a1) (cl noHs a2) (cl noHs a3) (cl noHs a4) (cl noHs a5)) := (callW_iso hOther rfl rfl rfl _).trans (congrArg isoP (E14 _ _ (cl noHs a0) (cl noHs a1) (cl noHs a2) (cl noHs a3) (cl noHs a4) (cl noHs a5)))
noncomputable def S15 (call : CC) (_fx : Fix AV) (a0 a1 a2 a3 a4 a5 : AV) : M AV :=
 bnd (call 11 [a0]) fun v0 =>
 bnd (lft (extractA v0 0)) fun v1 =>
 bnd (lft (extractA v0 1)) fun v2 =>
 bnd (lft (binA T .neq 33 v2 (AV.int .i64 0))) fun v3 =>
 condM v3 (bnd (lft (buildA T false 43 [(0, v2)])) fun v4 =>
 bnd (cellsNil 8 [] v4) fun v5 =>
 M.pure (AV.agg [nth (acells v5) 0, nth (acells v5) 1, nth (acells v5) 2, nth (acells v5) 3, nth (acells v5) 4, nth (acells v5) 5, nth (acells v5) 6, nth (acells v5) 7])) (bnd (call 18 [a0, v1, a1, a2, a3, a4, a5]) fun v6 =>
 bnd (cellsNil 8 [] v6) fun v7 =>
 M.pure (AV.agg [nth (acells v7) 0, nth (acells v7) 1, nth (acells v7) 2, nth (acells v7) 3, nth (acells v7) 4, nth (acells v7) 5, nth (acells v7) 6, nth (acells v7) 7]))
theorem E15 (call : CC) (fx : Fix AV) (a0 a1 a2 a3 a4 a5 : AV) : evBody (pg.cx call Try.f15.ntmps ann15) fx Try.f15 (own 15) [a0, a1, a2, a3, a4, a5] = S15 call fx a0 a1 a2 a3 a4 a5 := by kernel_rfl
theorem C15 (a0 a1 a2 a3 a4 a5 : AV) : callW pg 15 [a0, a1, a2, a3, a4, a5] = isoP (S15 (callW pg) fixW (cl noHs a0) (cl noHs a1) (cl noHs a2) (cl noHs a3) (cl noHs a4) (cl noHs a5)) := (callW_iso hOther rfl rfl rfl _).trans (congrArg isoP (E15 _ _ (cl noHs a0) (cl noHs a1) (cl noHs a2) (cl noHs a3) (cl noHs a4) (cl noHs a5)))
noncomputable def L16_0 (_call : CC) (_fx : Fix AV) (v0 : List AV → M AV) (v1 : List AV) : M AV :=
 bnd (lft (lenA T 32 (nth v1 0))) fun v2 =>
 bnd (lft (binA T .lss 3 (nth v1 2) v2)) fun v3 =>
 condM v3 (bnd (lft (indexAddrA T 32 (nth v1 0) (nth v1 2))) fun v4 =>
 bnd (lft (fieldAddrA T 47 v4 0)) fun v5 =>
 bnd (lft (loadA T 9 v5)) fun v6 =>
 bnd (lft (buildSliceA T 23 0 [])) fun v7 =>
 bnd (lft (indexAddrA T 32 (nth v1 0) (nth v1 2))) fun v8 =>
 bnd (lft (fieldAddrA T 47 v8 1)) fun v9 =>
 bnd (lft (loadA T 23 v9)) fun v10 =>
 bnd (appH T 23 true v7 v10) fun v11 =>
 bnd (lft (buildA T false 47 [(0, v6), (1, v11)])) fun v12 =>
 bnd (lft (buildSliceA T 32 1 [(0, v12)])) fun v13 =>
 bnd (appH T 32 false (nth v1 1) v13) fun v14 =>
 bnd (lft (binA T .add 3 (nth v1 2) (AV.int .i64 1))) fun v15 =>
 v0 [nth v1 0, v14, v15]) (M.pure (nth v1 1))
theorem XL16_0 {call : CC} : Cont1 (L16_0 call fixW ) fun _n => L16_0 call fixW  := by
 intro v0 v0s hself v1
 unfold L16_0
 exact (lb fun _ => (lb fun _ => (condM_lim (lb fun _ => (lb fun _ => (lb fun _ => (lb fun _ => (lb fun _ => (lb fun _ => (lb fun _ => (lb fun _ => (lb fun _ => (lb fun _ => (lb fun _ => (lb fun _ => (hself _))))))))))))) (LimM.const _))))
theorem FL16_0 (call : CC) (vs : List AV) : fixW (L16_0 call fixW ) vs = L16_0 call fixW  (fixW (L16_0 call fixW )) vs := fixW_eq (XL16_0 ) vs
noncomputable def S16 (call : CC) (fx : Fix AV) (a0 : AV) : M AV :=
 fx (L16_0 call fx) [a0, AV.hn, AV.int .i64 0]
theorem E16 (call : CC) (fx : Fix AV) (a0 : AV) : evBody (pg.cx call Try.f16.ntmps ann16) fx Try.f16 (own 16) [a0] = S16 call fx a0 := by kernel_rfl
theorem C16 (a0 : AV) : callW pg 16 [a0] = S16 (callW pg) fixW a0 := (callW_heap hOther rfl rfl rfl _).trans (E16 _ _ a0)
noncomputable def S19 (call : CC) (_fx : Fix AV) (a0 a1 a2 : AV) : M AV :=
 bnd (lft (loadA T 25 (AV.ip (acells a1)))) fun v0 =>
 bnd (lft (lenA T 25 v0)) fun v1 =>
 bnd (lft (loadA T 23 (AV.ip (acells a2)))) fun v2 =>
 bnd (lft (lenA T 23 v2)) fun v3 =>
 bnd (lft (binA T .neq 3 v1 v3)) fun v4 =>
 bnd (guardM v4 false 1 (bnd (lft (loadA T 23 (AV.ip (acells a2)))) fun v5 =>
 bnd (call 37 [v5, AV.fn (Fn.func 48) [] []]) fun v6 =>
 M.pure [v6])) fun v7 =>
 bnd (lft (pickA v4 (AV.bool true) (nth v7 0))) fun v8 =>
 condM v8 (bnd (lft (buildA T false 39 [])) fun v9 =>
 bnd (cellsNil 4 [] v9) fun v10 =>
 M.pure (AV.tup [AV.agg [nth (acells v10) 0, nth (acells v10) 1, nth (acells v10) 2, nth (acells v10) 3], AV.int .i64 1])) (bnd (lft (buildA T true 81 [(2, AV.int .i64 100000)])) fun v11 =>
 bnd (newH (acells v11)) fun v12 =>
 bnd (cellsM 1 v12) fun v13 =>
 bnd (call 40 [AV.fn (Fn.func 49) [] [AV.ip (acells v13), AV.ip (acells a1), AV.ip (acells a2), AV.ip (acells a0)]]) fun v14 =>
 bnd (lft (extractA v14 0)) fun v15 =>
 bnd (lft (extractA v14 1)) fun v16 =>
 bnd (cellsNil 4 [] v15) fun v17 =>
 M.pure (AV.tup [AV.agg [nth (acells v17) 0, nth (acells v17) 1, nth (acells v17) 2, nth (acells v17) 3], v16]))
theorem E19 (call : CC) (fx : Fix AV) (a0 a1 a2 : AV) : evBody (pg.cx call Try.f19.ntmps ann19) fx Try.f19 (own 19) [a0, a1, a2] = S19 call fx a0 a1 a2 := by kernel_rfl
theorem C19 (a0 a1 a2 : AV) : callW pg 19 [a0, a1, a2] = isoP (S19 (callW pg) fixW (cl noHs a0) (cl noHs a1) (cl noHs a2)) := (callW_iso hOther rfl rfl rfl _).trans (congrArg isoP (E19 _ _ (cl noHs a0) (cl noHs a1) (cl noHs a2)))
noncomputable def S22 (call : CC) (_fx : Fix AV) (a0 : AV) : M AV :=
 bnd (lft (loadA T 39 (AV.ip (acells a0)))) fun v0 =>
 bnd (call 53 [v0, AV.int .i64 4]) fun v1 =>
 M.pure v1
theorem E22 (call : CC) (fx : Fix AV) (a0 : AV) : evBody (pg.cx call Try.f22.ntmps ann22) fx Try.f22 (own 22) [a0] = S22 call fx a0 := by kernel_rfl
theorem C22 (a0 : AV) : callW pg 22 [a0] = isoP (S22 (callW pg) fixW (cl noHs a0)) := (callW_iso hOther rfl rfl rfl _).trans (congrArg isoP (E22 _ _ (cl noHs a0)))
noncomputable def L30_0 (call : CC) (_fx : Fix AV) (v47 : List AV → M AV) (v48 : List AV) : M AV :=
 bnd (lft (lenA T 26 (nth v48 1))) fun v49 =>
 bnd (lft (binA T .lss 3 (nth v48 2) v49)) fun v50 =>
 condM v50 (bnd (lft (indexAddrA T 26 (nth v48 1) (nth v48 2))) fun v51 =>
 bnd (lft (loadA T 28 v51)) fun v52 =>
 bnd (call 9 [v52, AV.int .i64 40, AV.int .i64 16]) fun v53 =>
 bnd (lft (binA T .gtr 3 v53 (AV.int .i64 40))) fun v54 =>
 condM v54 (M.pure (AV.bool false)) (bnd (lft (binA T .add 3 (nth v48 2) (AV.int .i64 1))) fun v55 =>
 v47 [nth v48 0, nth v48 1, v55])) (bnd (lft (fieldAddrA T 63 (nth v48 0) 1)) fun v56 =>
 bnd (lft (loadA T 25 v56)) fun v57 =>
 bnd (lft (lenA T 25 v57)) fun v58 =>
 bnd (lft (binA T .leq 3 v58 (AV.int .i64 12))) fun v59 =>
 bnd (guardM v59 true 1 (bnd (lft (fieldAddrA T 63 (nth v48 0) 2)) fun v60 =>
 bnd (lft (loadA T 58 v60)) fun v61 =>
 bnd (call 56 [v61]) fun v62 =>
 M.pure [v62])) fun v63 =>
 bnd (lft (pickA v59 (nth v63 0) (AV.bool false))) fun v64 =>
 bnd (guardM v64 true 1 (bnd (lft (fieldAddrA T 63 (nth v48 0) 6)) fun v65 =>
 bnd (lft (fieldAddrA T 61 v65 0)) fun v66 =>
 bnd (lft (loadA T 58 v66)) fun v67 =>
 bnd (call 56 [v67]) fun v68 =>
 M.pure [v68])) fun v69 =>
 bnd (lft (pickA v64 (nth v69 0) (AV.bool false))) fun v70 =>
 bnd (guardM v70 true 1 (bnd (lft (fieldAddrA T 63 (nth v48 0) 6)) fun v71 =>
 bnd (lft (fieldAddrA T 61 v71 1)) fun v72 =>
 bnd (lft (loadA T 26 v72)) fun v73 =>
 bnd (lft (lenA T 26 v73)) fun v74 =>
 bnd (lft (binA T .leq 3 v74 (AV.int .i64 6))) fun v75 =>
 M.pure [v75])) fun v76 =>
 bnd (lft (pickA v70 (nth v76 0) (AV.bool false))) fun v77 =>
 bnd (guardM v77 true 1 (bnd (lft (fieldAddrA T 63 (nth v48 0) 6)) fun v78 =>
 bnd (lft (fieldAddrA T 61 v78 2)) fun v79 =>
 bnd (lft (loadA T 26 v79)) fun v80 =>
 bnd (lft (lenA T 26 v80)) fun v81 =>
 bnd (lft (binA T .leq 3 v81 (AV.int .i64 6))) fun v82 =>
 M.pure [v82])) fun v83 =>
 bnd (lft (pickA v77 (nth v83 0) (AV.bool false))) fun v84 =>
 M.pure v84)
noncomputable def L30_1 (call : CC) (fx : Fix AV) (v0 : List AV → M AV) (v1 : List AV) : M AV :=
 bnd (lft (fieldAddrA T 63 (nth v1 0) 4)) fun v2 =>
 bnd (lft (loadA T 59 v2)) fun v3 =>
 bnd (lft (lenA T 59 v3)) fun v4 =>
 bnd (lft (binA T .lss 3 (nth v1 1) v4)) fun v5 =>
 bnd (guardM v5 true 1 (bnd (lft (binA T .lss 3 (nth v1 1) (AV.int .i64 9))) fun v6 =>
 M.pure [v6])) fun v7 =>
 bnd (lft (pickA v5 (nth v7 0) (AV.bool false))) fun v8 =>
 condM v8 (bnd (lft (fieldAddrA T 63 (nth v1 0) 4)) fun v9 =>
 bnd (lft (loadA T 59 v9)) fun v10 =>
 bnd (lft (indexAddrA T 59 v10 (nth v1 1))) fun v11 =>
 bnd (lft (fieldAddrA T 67 v11 2)) fun v12 =>
 bnd (lft (loadA T 58 v12)) fun v13 =>
 bnd (call 56 [v13]) fun v14 =>
 bnd (lft (unA UnOp.not v14)) fun v15 =>
 bnd (guardM v15 false 1 (bnd (lft (fieldAddrA T 63 (nth v1 0) 4)) fun v16 =>
 bnd (lft (loadA T 59 v16)) fun v17 =>
 bnd (lft (indexAddrA T 59 v17 (nth v1 1))) fun v18 =>
 bnd (lft (fieldAddrA T 67 v18 3)) fun v19 =>
 bnd (lft (loadA T 65 v19)) fun v20 =>
 bnd (call 57 [v20, AV.int .i64 20, AV.int .i64 8]) fun v21 =>
 bnd (lft (binA T .gtr 3 v21 (AV.int .i64 20))) fun v22 =>
 M.pure [v22])) fun v23 =>
 bnd (lft (pickA v15 (AV.bool true) (nth v23 0))) fun v24 =>
 condM v24 (M.pure (AV.bool false)) (bnd (lft (binA T .add 3 (nth v1 1) (AV.int .i64 1))) fun v25 =>
 v0 [nth v1 0, v25])) (bnd (lft (buildSliceA T 26 0 [])) fun v26 =>
 bnd (lft (fieldAddrA T 63 (nth v1 0) 6)) fun v27 =>
 bnd (lft (fieldAddrA T 61 v27 1)) fun v28 =>
 bnd (lft (loadA T 26 v28)) fun v29 =>
 bnd (lft (fieldAddrA T 63 (nth v1 0) 6)) fun v30 =>
 bnd (lft (fieldAddrA T 61 v30 1)) fun v31 =>
 bnd (lft (loadA T 26 v31)) fun v32 =>
 bnd (lft (lenA T 26 v32)) fun v33 =>
 bnd (lft (minsA false [v33, AV.int .i64 7])) fun v34 =>
 bnd (lft (sliceA T 26 v29 none (some v34) none)) fun v35 =>
 bnd (lft (appA T 26 v26 v35)) fun v36 =>
 bnd (lft (fieldAddrA T 63 (nth v1 0) 6)) fun v37 =>
 bnd (lft (fieldAddrA T 61 v37 2)) fun v38 =>
 bnd (lft (loadA T 26 v38)) fun v39 =>
 bnd (lft (fieldAddrA T 63 (nth v1 0) 6)) fun v40 =>
 bnd (lft (fieldAddrA T 61 v40 2)) fun v41 =>
 bnd (lft (loadA T 26 v41)) fun v42 =>
 bnd (lft (lenA T 26 v42)) fun v43 =>
 bnd (lft (minsA false [v43, AV.int .i64 7])) fun v44 =>
 bnd (lft (sliceA T 26 v39 none (some v44) none)) fun v45 =>
 bnd (lft (appA T 26 v36 v45)) fun v46 =>
 fx (L30_0 call fx) [nth v1 0, v46, AV.int .i64 0])
theorem XL30_0 {call : CC} : Cont1 (L30_0 call fixW ) fun _n => L30_0 call fixW  := by
 intro v47 v47s hself v48
 unfold L30_0
 exact (lb fun _ => (lb fun _ => (condM_lim (lb fun _ => (lb fun _ => (lb fun _ => (lb fun _ => (condM_lim (LimM.const _) (lb fun _ => (hself _))))))) (LimM.const _))))
theorem FL30_0 (call : CC) (vs : List AV) : fixW (L30_0 call fixW ) vs = L30_0 call fixW  (fixW (L30_0 call fixW )) vs := fixW_eq (XL30_0 ) vs
theorem XL30_1 {call : CC} : Cont1 (L30_1 call fixW ) fun _n => L30_1 call fixW  := by
 intro v0 v0s hself v1
 unfold L30_1
 exact (lb fun _ => (lb fun _ => (lb fun _ => (lb fun _ => (lb fun _ => (lb fun _ => (condM_lim (lb fun _ => (lb fun _ => (lb fun _ => (lb fun _ => (lb fun _ => (lb fun _ => (lb fun _ => (lb fun _ => (lb fun _ => (condM_lim (LimM.const _) (lb fun _ => (hself _)))))))))))) (LimM.const _))))))))
theorem FL30_1 (call : CC) (vs : List AV) : fixW (L30_1 call fixW ) vs = L30_1 call fixW  (fixW (L30_1 call fixW )) vs := fixW_eq (XL30_1 ) vs
noncomputable def S30 (call : CC) (fx : Fix AV) (a0 : AV) : M AV :=
 fx (L30_1 call fx) [AV.ip (acells a0), AV.int .i64 0]
theorem E30 (call : CC) (fx : Fix AV) (a0 : AV) : evBody (pg.cx call Try.f30.ntmps ann30) fx Try.f30 (own 30) [a0] = S30 call fx a0 := by kernel_rfl
theorem C30 (a0 : AV) : callW pg 30 [a0] = isoP (S30 (callW pg) fixW (cl noHs a0)) := (callW_iso hOther rfl rfl rfl _).trans (congrArg isoP (E30 _ _ (cl noHs a0)))
noncomputable def L44_0 (_call : CC) (_fx : Fix AV) (v0 : List AV → M AV) (v1 : List AV) : M AV :=
 bnd (lft (lenA T 22 (nth v1 0))) fun v2 =>
 bnd (lft (binA T .lss 3 (nth v1 2) v2)) fun v3 =>
 condM v3 (bnd (lft (indexAddrA T 22 (nth v1 0) (nth v1 2))) fun v4 =>
 bnd (lft (fieldAddrA T 63 v4 0)) fun v5 =>
 bnd (lft (loadA T 9 v5)) fun v6 =>
 bnd (lft (binA T .eql 9 v6 (nth v1 1))) fun v7 =>
 condM v7 (M.pure (nth v1 2)) (bnd (lft (binA T .add 3 (nth v1 2) (AV.int .i64 1))) fun v8 =>
 v0 [nth v1 0, nth v1 1, v8])) (M.pure (AV.int .i64 (-1)))
theorem XL44_0 {call : CC} : Cont1 (L44_0 call fixW ) fun _n => L44_0 call fixW  := by
 intro v0 v0s hself v1
 unfold L44_0
 exact (lb fun _ => (lb fun _ => (condM_lim (lb fun _ => (lb fun _ => (lb fun _ => (lb fun _ => (condM_lim (LimM.const _) (lb fun _ => (hself _))))))) (LimM.const _))))
theorem FL44_0 (call : CC) (vs : List AV) : fixW (L44_0 call fixW ) vs = L44_0 call fixW  (fixW (L44_0 call fixW )) vs := fixW_eq (XL44_0 ) vs
noncomputable def S44 (call : CC) (fx : Fix AV) (a0 a1 : AV) : M AV :=
 fx (L44_0 call fx) [a0, a1, AV.int .i64 0]
theorem E44 (call : CC) (fx : Fix AV) (a0 a1 : AV) : evBody (pg.cx call Try.f44.ntmps ann44) fx Try.f44 (own 44) [a0, a1] = S44 call fx a0 a1 := by kernel_rfl
theorem C44 (a0 a1 : AV) : callW pg 44 [a0, a1] = isoP (S44 (callW pg) fixW (cl noHs a0) (cl noHs a1)) := (callW_iso hOther rfl rfl rfl _).trans (congrArg isoP (E44 _ _ (cl noHs a0) (cl noHs a1)))
noncomputable def K50_0 (call : CC) (_fx : Fix AV) (v27 : List AV) : M AV :=
 bnd (lft (loadA T 98 (nth v27 1))) fun v28 =>
 bnd (lft (loadA T 28 (nth v27 2))) fun v29 =>
 bnd (call 81 [nth v27 0, v28, v29]) fun v30 =>
 bnd (cellsNil 4 [] v30) fun v31 =>
 M.pure (AV.agg [nth (acells v31) 0, nth (acells v31) 1, nth (acells v31) 2, nth (acells v31) 3])
noncomputable def L50_0 (_call : CC) (_fx : Fix AV) (v32 : List AV → M AV) (v60 : List AV → M AV) (v61 : List AV) : M AV :=
 bnd (lft (binA T .geq 3 (nth v61 3) (AV.int .i64 0))) fun v62 =>
 condM v62 (bnd (lft (fieldAddrA T 98 (nth v61 1) 1)) fun v63 =>
 bnd (lft (loadA T 25 v63)) fun v64 =>
 bnd (lft (indexAddrA T 25 v64 (nth v61 3))) fun v65 =>
 bnd (lft (loadA T 9 v65)) fun v66 =>
 bnd (lft (fieldAddrA T 28 (nth v61 2) 2)) fun v67 =>
 bnd (lft (loadA T 9 v67)) fun v68 =>
 bnd (lft (binA T .eql 9 v66 v68)) fun v69 =>
 condM v69 (bnd (lft (fieldAddrA T 98 (nth v61 1) 2)) fun v70 =>
 bnd (lft (loadA T 23 v70)) fun v71 =>
 bnd (lft (indexAddrA T 23 v71 (nth v61 3))) fun v72 =>
 bnd (lft (loadA T 39 v72)) fun v73 =>
 bnd (cellsNil 4 [] v73) fun v74 =>
 M.pure (AV.agg [nth (acells v74) 0, nth (acells v74) 1, nth (acells v74) 2, nth (acells v74) 3])) (bnd (lft (binA T .sub 3 (nth v61 3) (AV.int .i64 1))) fun v75 =>
 v60 [nth v61 0, nth v61 1, nth v61 2, v75, nth v61 4, nth v61 5, nth v61 6, nth v61 7])) (bnd (lft (mkIfaceA T 33 (AV.int .i64 12))) fun v76 =>
 bnd (panM v76) fun _v77 =>
 v32 [nth v61 0, nth v61 1, nth v61 2, nth v61 4, nth v61 5, nth v61 6, nth v61 7])
noncomputable def K50_1 (call : CC) (_fx : Fix AV) (v32 : List AV → M AV) (v95 : List AV) : M AV :=
 condM (nth v95 4) (bnd (lft (loadA T 98 (nth v95 1))) fun v96 =>
 bnd (lft (fieldAddrA T 28 (nth v95 2) 5)) fun v97 =>
 bnd (lft (loadA T 26 v97)) fun v98 =>
 bnd (lft (indexAddrA T 26 v98 (AV.int .i64 0))) fun v99 =>
 bnd (lft (loadA T 28 v99)) fun v100 =>
 bnd (lft (fieldAddrA T 28 (nth v95 2) 0)) fun v101 =>
 bnd (lft (loadA T 3 v101)) fun v102 =>
 bnd (lft (binA T .eql 3 v102 (AV.int .i64 9))) fun v103 =>
 bnd (call 77 [nth v95 0, v96, v100]) fun v104 =>
 bnd (lft (binA T .eql 4 v104 v103)) fun v105 =>
 condM v105 (bnd (lft (fieldAddrA T 28 (nth v95 2) 0)) fun v106 =>
 bnd (lft (loadA T 3 v106)) fun v107 =>
 bnd (lft (binA T .eql 3 v107 (AV.int .i64 9))) fun v108 =>
 bnd (call 75 [v108]) fun v109 =>
 bnd (cellsNil 4 [] v109) fun v110 =>
 M.pure (AV.agg [nth (acells v110) 0, nth (acells v110) 1, nth (acells v110) 2, nth (acells v110) 3])) (bnd (lft (loadA T 98 (nth v95 1))) fun v111 =>
 bnd (lft (fieldAddrA T 28 (nth v95 2) 5)) fun v112 =>
 bnd (lft (loadA T 26 v112)) fun v113 =>
 bnd (lft (indexAddrA T 26 v113 (AV.int .i64 1))) fun v114 =>
 bnd (lft (loadA T 28 v114)) fun v115 =>
 bnd (call 77 [nth v95 0, v111, v115]) fun v116 =>
 bnd (noPan (call 75 [v116])) fun v117 =>
 bnd (cellsNil 4 [] v117) fun v118 =>
 M.pure (AV.agg [nth (acells v118) 0, nth (acells v118) 1, nth (acells v118) 2, nth (acells v118) 3]))) (bnd (lft (binA T .eql 3 (nth v95 3) (AV.int .i64 10))) fun v119 =>
 condM v119 (bnd (lft (loadA T 98 (nth v95 1))) fun v120 =>
 bnd (lft (fieldAddrA T 28 (nth v95 2) 5)) fun v121 =>
 bnd (lft (loadA T 26 v121)) fun v122 =>
 bnd (lft (indexAddrA T 26 v122 (AV.int .i64 0))) fun v123 =>
 bnd (lft (loadA T 28 v123)) fun v124 =>
 bnd (call 77 [nth v95 0, v120, v124]) fun v125 =>
 bnd (lft (unA UnOp.not v125)) fun v126 =>
 bnd (noPan (call 75 [v126])) fun v127 =>
 bnd (cellsNil 4 [] v127) fun v128 =>
 M.pure (AV.agg [nth (acells v128) 0, nth (acells v128) 1, nth (acells v128) 2, nth (acells v128) 3])) (bnd (lft (binA T .eql 3 (nth v95 3) (AV.int .i64 11))) fun v129 =>
 condM v129 (bnd (lft (loadA T 98 (nth v95 1))) fun v130 =>
 bnd (lft (fieldAddrA T 28 (nth v95 2) 5)) fun v131 =>
 bnd (lft (loadA T 26 v131)) fun v132 =>
 bnd (lft (indexAddrA T 26 v132 (AV.int .i64 0))) fun v133 =>
 bnd (lft (loadA T 28 v133)) fun v134 =>
 bnd (call 77 [nth v95 0, v130, v134]) fun v135 =>
 condM v135 (bnd (lft (loadA T 98 (nth v95 1))) fun v136 =>
 bnd (lft (fieldAddrA T 28 (nth v95 2) 5)) fun v137 =>
 bnd (lft (loadA T 26 v137)) fun v138 =>
 bnd (lft (indexAddrA T 26 v138 (AV.int .i64 1))) fun v139 =>
 bnd (lft (loadA T 28 v139)) fun v140 =>
 bnd (call 50 [nth v95 0, v136, v140]) fun v141 =>
 bnd (cellsNil 4 [] v141) fun v142 =>
 M.pure (AV.agg [nth (acells v142) 0, nth (acells v142) 1, nth (acells v142) 2, nth (acells v142) 3])) (bnd (lft (loadA T 98 (nth v95 1))) fun v143 =>
 bnd (lft (fieldAddrA T 28 (nth v95 2) 5)) fun v144 =>
 bnd (lft (loadA T 26 v144)) fun v145 =>
 bnd (lft (indexAddrA T 26 v145 (AV.int .i64 2))) fun v146 =>
 bnd (lft (loadA T 28 v146)) fun v147 =>
 bnd (call 50 [nth v95 0, v143, v147]) fun v148 =>
 bnd (cellsNil 4 [] v148) fun v149 =>
 M.pure (AV.agg [nth (acells v149) 0, nth (acells v149) 1, nth (acells v149) 2, nth (acells v149) 3]))) (bnd (lft (binA T .eql 3 (nth v95 3) (AV.int .i64 12))) fun v150 =>
 condM v150 (bnd (lft (loadA T 98 (nth v95 1))) fun v151 =>
 bnd (lft (fieldAddrA T 28 (nth v95 2) 2)) fun v152 =>
 bnd (lft (loadA T 9 v152)) fun v153 =>
 bnd (lft (loadA T 98 (nth v95 1))) fun v154 =>
 bnd (lft (fieldAddrA T 28 (nth v95 2) 5)) fun v155 =>
 bnd (lft (loadA T 26 v155)) fun v156 =>
 bnd (lft (indexAddrA T 26 v156 (AV.int .i64 0))) fun v157 =>
 bnd (lft (loadA T 28 v157)) fun v158 =>
 bnd (lft (fieldAddrA T 28 (nth v95 2) 5)) fun v159 =>
 bnd (lft (loadA T 26 v159)) fun v160 =>
 bnd (lft (indexAddrA T 26 v160 (AV.int .i64 1))) fun v161 =>
 bnd (lft (loadA T 28 v161)) fun v162 =>
 bnd (call 50 [nth v95 0, v154, v158]) fun v163 =>
 bnd (noPan (call 70 [v151, v153, v163])) fun v164 =>
 bnd (call 50 [nth v95 0, v164, v162]) fun v165 =>
 bnd (cellsNil 4 [] v165) fun v166 =>
 M.pure (AV.agg [nth (acells v166) 0, nth (acells v166) 1, nth (acells v166) 2, nth (acells v166) 3])) (bnd (lft (binA T .eql 3 (nth v95 3) (AV.int .i64 13))) fun v167 =>
 condM v167 (bnd (lft (loadA T 98 (nth v95 1))) fun v168 =>
 bnd (lft (loadA T 28 (nth v95 2))) fun v169 =>
 bnd (call 78 [nth v95 0, v168, v169]) fun v170 =>
 bnd (cellsNil 4 [] v170) fun v171 =>
 M.pure (AV.agg [nth (acells v171) 0, nth (acells v171) 1, nth (acells v171) 2, nth (acells v171) 3])) (bnd (lft (binA T .eql 3 (nth v95 3) (AV.int .i64 14))) fun v172 =>
 condM v172 (bnd (lft (loadA T 98 (nth v95 1))) fun v173 =>
 bnd (lft (fieldAddrA T 28 (nth v95 2) 5)) fun v174 =>
 bnd (lft (loadA T 26 v174)) fun v175 =>
 bnd (lft (indexAddrA T 26 v175 (AV.int .i64 0))) fun v176 =>
 bnd (lft (loadA T 28 v176)) fun v177 =>
 bnd (call 50 [nth v95 0, v173, v177]) fun v178 =>
 bnd (cellsM 4 v178) fun v179 =>
 bnd (lft (fieldAddrA T 39 (AV.ip (acells v179)) 2)) fun v180 =>
 bnd (lft (loadA T 25 v180)) fun v181 =>
 bnd (lft (fieldAddrA T 28 (nth v95 2) 2)) fun v182 =>
 bnd (lft (loadA T 9 v182)) fun v183 =>
 bnd (call 79 [v181, v183]) fun v184 =>
 bnd (lft (fieldAddrA T 39 (AV.ip (acells v179)) 0)) fun v185 =>
 bnd (lft (loadA T 3 v185)) fun v186 =>
 bnd (lft (binA T .eql 3 v186 (AV.int .i64 2))) fun v187 =>
 bnd (guardM v187 true 1 (bnd (lft (binA T .geq 3 v184 (AV.int .i64 0))) fun v188 =>
 M.pure [v188])) fun v189 =>
 bnd (lft (pickA v187 (nth v189 0) (AV.bool false))) fun v190 =>
 bnd (call 69 [v190, AV.int .i64 13]) fun _v191 =>
 bnd (lft (fieldAddrA T 39 (AV.ip (acells v179)) 3)) fun v192 =>
 bnd (lft (loadA T 23 v192)) fun v193 =>
 bnd (lft (indexAddrA T 23 v193 v184)) fun v194 =>
 bnd (lft (loadA T 39 v194)) fun v195 =>
 bnd (cellsNil 4 [] v195) fun v196 =>
 M.pure (AV.agg [nth (acells v196) 0, nth (acells v196) 1, nth (acells v196) 2, nth (acells v196) 3])) (bnd (lft (binA T .eql 3 (nth v95 3) (AV.int .i64 15))) fun v197 =>
 condM v197 (bnd (lft (loadA T 98 (nth v95 1))) fun v198 =>
 bnd (lft (loadA T 28 (nth v95 2))) fun v199 =>
 bnd (call 80 [nth v95 0, v198, v199]) fun v200 =>
 bnd (cellsNil 4 [] v200) fun v201 =>
 M.pure (AV.agg [nth (acells v201) 0, nth (acells v201) 1, nth (acells v201) 2, nth (acells v201) 3])) (v32 [nth v95 0, nth v95 1, nth v95 2, nth v95 5, nth v95 6, nth v95 7, nth v95 8])))))))
noncomputable def K50_2 (call : CC) (fx : Fix AV) (v32 : List AV → M AV) (v78 : List AV) : M AV :=
 condM (nth v78 4) (bnd (lft (fieldAddrA T 28 (nth v78 2) 0)) fun v79 =>
 bnd (lft (loadA T 3 v79)) fun v80 =>
 bnd (lft (loadA T 98 (nth v78 1))) fun v81 =>
 bnd (lft (fieldAddrA T 28 (nth v78 2) 5)) fun v82 =>
 bnd (lft (loadA T 26 v82)) fun v83 =>
 bnd (lft (indexAddrA T 26 v83 (AV.int .i64 0))) fun v84 =>
 bnd (lft (loadA T 28 v84)) fun v85 =>
 bnd (lft (loadA T 98 (nth v78 1))) fun v86 =>
 bnd (lft (fieldAddrA T 28 (nth v78 2) 5)) fun v87 =>
 bnd (lft (loadA T 26 v87)) fun v88 =>
 bnd (lft (indexAddrA T 26 v88 (AV.int .i64 1))) fun v89 =>
 bnd (lft (loadA T 28 v89)) fun v90 =>
 bnd (call 50 [nth v78 0, v81, v85]) fun v91 =>
 bnd (call 50 [nth v78 0, v86, v90]) fun v92 =>
 bnd (call 76 [v80, v91, v92]) fun v93 =>
 bnd (cellsNil 4 [] v93) fun v94 =>
 M.pure (AV.agg [nth (acells v94) 0, nth (acells v94) 1, nth (acells v94) 2, nth (acells v94) 3])) (jn (K50_1 call fx v32) fun v202 =>
 bnd (lft (binA T .eql 3 (nth v78 3) (AV.int .i64 8))) fun v203 =>
 condM v203 (v202 [nth v78 0, nth v78 1, nth v78 2, nth v78 3, v203, nth v78 5, nth v78 6, nth v78 7, nth v78 8]) (bnd (lft (binA T .eql 3 (nth v78 3) (AV.int .i64 9))) fun v204 =>
 v202 [nth v78 0, nth v78 1, nth v78 2, nth v78 3, v204, nth v78 5, nth v78 6, nth v78 7, nth v78 8]))
theorem XL50_0 {call : CC} {v32 : List AV → M AV} {v32s : Nat → List AV → M AV} (hv32 : LimF v32 fun n => v32s n) : Cont1 (L50_0 call fixW v32) fun n => L50_0 call fixW (v32s n) := by
 intro v60 v60s hself v61
 unfold L50_0
 exact (lb fun _ => (condM_lim (lb fun _ => (lb fun _ => (lb fun _ => (lb fun _ => (lb fun _ => (lb fun _ => (lb fun _ => (condM_lim (LimM.const _) (lb fun _ => (hself _)))))))))) (lb fun _ => (lb fun _ => (hv32 _)))))
theorem FL50_0 (call : CC) (v32 : List AV → M AV) (vs : List AV) : fixW (L50_0 call fixW v32) vs = L50_0 call fixW v32 (fixW (L50_0 call fixW v32)) vs := fixW_eq (XL50_0 (LimF.const _)) vs
noncomputable def S50 (call : CC) (fx : Fix AV) (a0 a1 a2 : AV) : M AV :=
 bnd (lft (nilChkA a0)) fun v0 =>
 bnd (lft (fieldAddrA T 81 v0 2)) fun v1 =>
 bnd (loadH T 3 v1) fun v2 =>
 bnd (lft (binA T .gtr 3 v2 (AV.int .i64 0))) fun v3 =>
 bnd (call 69 [v3, AV.int .i64 16]) fun _v4 =>
 bnd (lft (nilChkA a0)) fun v5 =>
 bnd (lft (fieldAddrA T 81 v5 2)) fun v6 =>
 bnd (loadH T 3 v6) fun v7 =>
 bnd (lft (binA T .sub 3 v7 (AV.int .i64 1))) fun v8 =>
 bnd (lft (nilChkA a0)) fun v9 =>
 bnd (lft (fieldAddrA T 81 v9 2)) fun v10 =>
 bnd (storeH T 3 v10 v8) fun _v11 =>
 bnd (lft (fieldAddrA T 28 (AV.ip (acells a2)) 0)) fun v12 =>
 bnd (lft (loadA T 3 v12)) fun v13 =>
 bnd (call 73 [v13]) fun v14 =>
 bnd (lft (binA T .neq 3 v14 (AV.int .i64 (-2)))) fun v15 =>
 bnd (guardM v15 true 1 (bnd (lft (binA T .eql 3 v14 (AV.int .i64 (-1)))) fun v16 =>
 M.pure [v16])) fun v17 =>
 bnd (guardM (nth v17 0) false 1 (bnd (lft (fieldAddrA T 28 (AV.ip (acells a2)) 5)) fun v18 =>
 bnd (lft (loadA T 26 v18)) fun v19 =>
 bnd (lft (lenA T 26 v19)) fun v20 =>
 bnd (lft (binA T .eql 3 v14 v20)) fun v21 =>
 M.pure [v21])) fun v22 =>
 bnd (guardM v15 true 1 (bnd (lft (pickA (nth v17 0) (AV.bool true) (nth v22 0))) fun v23 =>
 M.pure [v23])) fun v24 =>
 bnd (lft (pickA v15 (nth v24 0) (AV.bool false))) fun v25 =>
 bnd (call 69 [v25, AV.int .i64 13]) fun _v26 =>
 jn (K50_0 call fx) fun v32 =>
 bnd (lft (fieldAddrA T 28 (AV.ip (acells a2)) 0)) fun v33 =>
 bnd (lft (loadA T 3 v33)) fun v34 =>
 bnd (lft (binA T .eql 3 v34 (AV.int .i64 0))) fun v35 =>
 condM v35 (bnd (lft (fieldAddrA T 28 (AV.ip (acells a2)) 1)) fun v36 =>
 bnd (lft (loadA T 3 v36)) fun v37 =>
 bnd (call 74 [v37]) fun v38 =>
 bnd (cellsNil 4 [] v38) fun v39 =>
 M.pure (AV.agg [nth (acells v39) 0, nth (acells v39) 1, nth (acells v39) 2, nth (acells v39) 3])) (bnd (lft (binA T .eql 3 v34 (AV.int .i64 1))) fun v40 =>
 condM v40 (bnd (lft (fieldAddrA T 28 (AV.ip (acells a2)) 1)) fun v41 =>
 bnd (lft (loadA T 3 v41)) fun v42 =>
 bnd (lft (binA T .eql 3 v42 (AV.int .i64 0))) fun v43 =>
 bnd (guardM v43 false 1 (bnd (lft (fieldAddrA T 28 (AV.ip (acells a2)) 1)) fun v44 =>
 bnd (lft (loadA T 3 v44)) fun v45 =>
 bnd (lft (binA T .eql 3 v45 (AV.int .i64 1))) fun v46 =>
 M.pure [v46])) fun v47 =>
 bnd (lft (pickA v43 (AV.bool true) (nth v47 0))) fun v48 =>
 bnd (call 69 [v48, AV.int .i64 13]) fun _v49 =>
 bnd (lft (fieldAddrA T 28 (AV.ip (acells a2)) 1)) fun v50 =>
 bnd (lft (loadA T 3 v50)) fun v51 =>
 bnd (lft (binA T .eql 3 v51 (AV.int .i64 1))) fun v52 =>
 bnd (call 75 [v52]) fun v53 =>
 bnd (cellsNil 4 [] v53) fun v54 =>
 M.pure (AV.agg [nth (acells v54) 0, nth (acells v54) 1, nth (acells v54) 2, nth (acells v54) 3])) (bnd (lft (binA T .eql 3 v34 (AV.int .i64 2))) fun v55 =>
 condM v55 (bnd (lft (fieldAddrA T 98 (AV.ip (acells a1)) 1)) fun v56 =>
 bnd (lft (loadA T 25 v56)) fun v57 =>
 bnd (lft (lenA T 25 v57)) fun v58 =>
 bnd (lft (binA T .sub 3 v58 (AV.int .i64 1))) fun v59 =>
 fx (L50_0 call fx v32) [a0, AV.ip (acells a1), AV.ip (acells a2), v59, AV.int .i64 0, AV.int .i64 0, AV.sl [], AV.sl []]) (jn (K50_2 call fx v32) fun v205 =>
 bnd (lft (binA T .eql 3 v34 (AV.int .i64 3))) fun v206 =>
 condM v206 (v205 [a0, AV.ip (acells a1), AV.ip (acells a2), v34, v206, AV.int .i64 0, AV.int .i64 0, AV.sl [], AV.sl []]) (bnd (lft (binA T .eql 3 v34 (AV.int .i64 4))) fun v207 =>
 condM v207 (v205 [a0, AV.ip (acells a1), AV.ip (acells a2), v34, v207, AV.int .i64 0, AV.int .i64 0, AV.sl [], AV.sl []]) (bnd (lft (binA T .eql 3 v34 (AV.int .i64 5))) fun v208 =>
 condM v208 (v205 [a0, AV.ip (acells a1), AV.ip (acells a2), v34, v208, AV.int .i64 0, AV.int .i64 0, AV.sl [], AV.sl []]) (bnd (lft (binA T .eql 3 v34 (AV.int .i64 6))) fun v209 =>
 condM v209 (v205 [a0, AV.ip (acells a1), AV.ip (acells a2), v34, v209, AV.int .i64 0, AV.int .i64 0, AV.sl [], AV.sl []]) (bnd (lft (binA T .eql 3 v34 (AV.int .i64 7))) fun v210 =>
 v205 [a0, AV.ip (acells a1), AV.ip (acells a2), v34, v210, AV.int .i64 0, AV.int .i64 0, AV.sl [], AV.sl []])))))))
theorem E50 (call : CC) (fx : Fix AV) (a0 a1 a2 : AV) : evBody (pg.cx call Try.f50.ntmps ann50) fx Try.f50 (own 50) [a0, a1, a2] = S50 call fx a0 a1 a2 := by kernel_rfl
theorem C50 (a0 a1 a2 : AV) : callW pg 50 [a0, a1, a2] = S50 (callW pg) fixW a0 a1 a2 := (callW_heap hOther rfl rfl rfl _).trans (E50 _ _ a0 a1 a2)
noncomputable def S54 (call : CC) (_fx : Fix AV) (a0 a1 : AV) : M AV :=
 bnd (lft (fieldAddrA T 39 (AV.ip (acells a0)) 0)) fun v0 =>
 bnd (lft (loadA T 3 v0)) fun v1 =>
 bnd (lft (fieldAddrA T 39 (AV.ip (acells a1)) 0)) fun v2 =>
 bnd (lft (loadA T 3 v2)) fun v3 =>
 bnd (lft (binA T .eql 3 v1 v3)) fun v4 =>
 bnd (guardM v4 true 1 (bnd (lft (fieldAddrA T 39 (AV.ip (acells a0)) 1)) fun v5 =>
 bnd (lft (loadA T 3 v5)) fun v6 =>
 bnd (lft (fieldAddrA T 39 (AV.ip (acells a1)) 1)) fun v7 =>
 bnd (lft (loadA T 3 v7)) fun v8 =>
 bnd (lft (binA T .eql 3 v6 v8)) fun v9 =>
 M.pure [v9])) fun v10 =>
 bnd (lft (pickA v4 (nth v10 0) (AV.bool false))) fun v11 =>
 bnd (guardM v11 true 1 (bnd (lft (fieldAddrA T 39 (AV.ip (acells a0)) 2)) fun v12 =>
 bnd (lft (loadA T 25 v12)) fun v13 =>
 bnd (lft (fieldAddrA T 39 (AV.ip (acells a1)) 2)) fun v14 =>
 bnd (lft (loadA T 25 v14)) fun v15 =>
 bnd (call 92 [v13, v15]) fun v16 =>
 M.pure [v16])) fun v17 =>
 bnd (lft (pickA v11 (nth v17 0) (AV.bool false))) fun v18 =>
 bnd (guardM v18 true 1 (bnd (lft (fieldAddrA T 39 (AV.ip (acells a0)) 3)) fun v19 =>
 bnd (lft (loadA T 23 v19)) fun v20 =>
 bnd (lft (fieldAddrA T 39 (AV.ip (acells a1)) 3)) fun v21 =>
 bnd (lft (loadA T 23 v21)) fun v22 =>
 bnd (call 93 [v20, v22, AV.fn (Fn.func 54) [] []]) fun v23 =>
 M.pure [v23])) fun v24 =>
 bnd (lft (pickA v18 (nth v24 0) (AV.bool false))) fun v25 =>
 M.pure v25
theorem E54 (call : CC) (fx : Fix AV) (a0 a1 : AV) : evBody (pg.cx call Try.f54.ntmps ann54) fx Try.f54 (own 54) [a0, a1] = S54 call fx a0 a1 := by kernel_rfl
theorem C54 (a0 a1 : AV) : callW pg 54 [a0, a1] = isoP (S54 (callW pg) fixW (cl noHs a0) (cl noHs a1)) := (callW_iso hOther rfl rfl rfl _).trans (congrArg isoP (E54 _ _ (cl noHs a0) (cl noHs a1)))
noncomputable def L56_0 (call : CC) (_fx : Fix AV) (v0 : List AV → M AV) (v1 : List AV) : M AV :=
 bnd (lft (lenA T 58 (nth v1 0))) fun v2 =>
 bnd (lft (binA T .lss 3 (nth v1 1) v2)) fun v3 =>
 bnd (guardM v3 true 1 (bnd (lft (binA T .lss 3 (nth v1 1) (AV.int .i64 9))) fun v4 =>
 M.pure [v4])) fun v5 =>
 bnd (lft (pickA v3 (nth v5 0) (AV.bool false))) fun v6 =>
 condM v6 (bnd (lft (indexAddrA T 58 (nth v1 0) (nth v1 1))) fun v7 =>
 bnd (lft (fieldAddrA T 104 v7 1)) fun v8 =>
 bnd (lft (loadA T 65 v8)) fun v9 =>
 bnd (call 57 [v9, AV.int .i64 20, AV.int .i64 8]) fun v10 =>
 bnd (lft (binA T .gtr 3 v10 (AV.int .i64 20))) fun v11 =>
 condM v11 (M.pure (AV.bool false)) (bnd (lft (binA T .add 3 (nth v1 1) (AV.int .i64 1))) fun v12 =>
 v0 [nth v1 0, v12])) (bnd (lft (lenA T 58 (nth v1 0))) fun v13 =>
 bnd (lft (binA T .leq 3 v13 (AV.int .i64 8))) fun v14 =>
 M.pure v14)
theorem XL56_0 {call : CC} : Cont1 (L56_0 call fixW ) fun _n => L56_0 call fixW  := by
 intro v0 v0s hself v1
 unfold L56_0
 exact (lb fun _ => (lb fun _ => (lb fun _ => (lb fun _ => (condM_lim (lb fun _ => (lb fun _ => (lb fun _ => (lb fun _ => (lb fun _ => (condM_lim (LimM.const _) (lb fun _ => (hself _)))))))) (LimM.const _))))))
theorem FL56_0 (call : CC) (vs : List AV) : fixW (L56_0 call fixW ) vs = L56_0 call fixW  (fixW (L56_0 call fixW )) vs := fixW_eq (XL56_0 ) vs
noncomputable def S56 (call : CC) (fx : Fix AV) (a0 : AV) : M AV :=
 fx (L56_0 call fx) [a0, AV.int .i64 0]
theorem E56 (call : CC) (fx : Fix AV) (a0 : AV) : evBody (pg.cx call Try.f56.ntmps ann56) fx Try.f56 (own 56) [a0] = S56 call fx a0 := by kernel_rfl
theorem C56 (a0 : AV) : callW pg 56 [a0] = isoP (S56 (callW pg) fixW (cl noHs a0)) := (callW_iso hOther rfl rfl rfl _).trans (congrArg isoP (E56 _ _ (cl noHs a0)))
noncomputable def S66 (_call : CC) (_fx : Fix AV) (a0 a1 : AV) : M AV :=
 bnd (lft (fieldAddrA T 67 (AV.ip (acells a0)) 0)) fun v0 =>
 bnd (lft (loadA T 9 v0)) fun v1 =>
 bnd (lft (loadA T 9 a1)) fun v2 =>
 bnd (lft (binA T .eql 9 v1 v2)) fun v3 =>
 M.pure v3
theorem E66 (call : CC) (fx : Fix AV) (a0 a1 : AV) : evBody (pg.cx call Try.f66.ntmps ann66) fx Try.f66 (own 66) [a0, a1] = S66 call fx a0 a1 := by kernel_rfl
theorem C66 (a0 a1 : AV) : callW pg 66 [a0, a1] = isoP (S66 (callW pg) fixW (cl noHs a0) (cl noHs a1)) := (callW_iso hOther rfl rfl rfl _).trans (congrArg isoP (E66 _ _ (cl noHs a0) (cl noHs a1)))
noncomputable def S75 (_call : CC) (_fx : Fix AV) (a0 : AV) : M AV :=
 condM a0 (bnd (lft (buildA T false 39 [(0, AV.int .i64 1), (1, AV.int .i64 1)])) fun v0 =>
 bnd (cellsNil 4 [] v0) fun v1 =>
 M.pure (AV.agg [nth (acells v1) 0, nth (acells v1) 1, nth (acells v1) 2, nth (acells v1) 3])) (bnd (lft (buildA T false 39 [(0, AV.int .i64 1)])) fun v2 =>
 bnd (cellsNil 4 [] v2) fun v3 =>
 M.pure (AV.agg [nth (acells v3) 0, nth (acells v3) 1, nth (acells v3) 2, nth (acells v3) 3]))
theorem E75 (call : CC) (fx : Fix AV) (a0 : AV) : evBody (pg.cx call Try.f75.ntmps ann75) fx Try.f75 (own 75) [a0] = S75 call fx a0 := by kernel_rfl
theorem C75 (a0 : AV) : callW pg 75 [a0] = isoP (S75 (callW pg) fixW (cl noHs a0)) := (callW_iso hOther rfl rfl rfl _).trans (congrArg isoP (E75 _ _ (cl noHs a0)))
noncomputable def L84_0 (call : CC) (_fx : Fix AV) (v27 : List AV → M AV) (v28 : List AV) : M AV :=
 bnd (lft (fieldAddrA T 28 (nth v28 2) 5)) fun v29 =>
 bnd (lft (loadA T 26 v29)) fun v30 =>
 bnd (lft (lenA T 26 v30)) fun v31 =>
 bnd (lft (binA T .lss 3 (nth v28 3) v31)) fun v32 =>
 condM v32 (bnd (lft (loadA T 101 (nth v28 1))) fun v33 =>
 bnd (lft (fieldAddrA T 28 (nth v28 2) 5)) fun v34 =>
 bnd (lft (loadA T 26 v34)) fun v35 =>
 bnd (lft (indexAddrA T 26 v35 (nth v28 3))) fun v36 =>
 bnd (lft (loadA T 28 v36)) fun v37 =>
 bnd (call 51 [nth v28 0, v33, v37]) fun v38 =>
 bnd (lft (buildSliceA T 23 1 [(0, v38)])) fun v39 =>
 bnd (lft (appA T 23 (nth v28 11) v39)) fun v40 =>
 bnd (cell1M v40) fun _v41 =>
 bnd (lft (binA T .add 3 (nth v28 3) (AV.int .i64 1))) fun v42 =>
 v27 [nth v28 0, nth v28 1, nth v28 2, v42, nth v28 4, nth v28 5, nth v28 6, nth v28 7, nth v28 8, nth v28 9, nth v28 10, v40]) (bnd (lft (nilChkA (nth v28 0))) fun v43 =>
 bnd (lft (fieldAddrA T 95 v43 1)) fun v44 =>
 bnd (lft (fieldAddrA T 43 v44 0)) fun v45 =>
 bnd (loadH T 33 v45) fun v46 =>
 bnd (lft (binA T .eql 33 v46 (AV.int .i64 0))) fun v47 =>
 bnd (guardM v47 true 1 (bnd (call 100 [AV.agg [nth v28 8, nth v28 9, nth v28 10, nth v28 11]]) fun v48 =>
 bnd (lft (binA T .gtr 3 v48 (AV.int .i64 4))) fun v49 =>
 M.pure [v49])) fun v50 =>
 bnd (lft (pickA v47 (nth v50 0) (AV.bool false))) fun v51 =>
 condM v51 (bnd (call 71 [nth v28 0, AV.int .i64 6]) fun v52 =>
 bnd (cellsNil 4 [] v52) fun v53 =>
 M.pure (AV.agg [nth (acells v53) 0, nth (acells v53) 1, nth (acells v53) 2, nth (acells v53) 3])) (bnd (cellsNil 4 [] (AV.agg [nth v28 8, nth v28 9, nth v28 10, nth v28 11])) fun v54 =>
 M.pure (AV.agg [nth (acells v54) 0, nth (acells v54) 1, nth (acells v54) 2, nth (acells v54) 3])))
theorem XL84_0 {call : CC} : Cont1 (L84_0 call fixW ) fun _n => L84_0 call fixW  := by
 intro v27 v27s hself v28
 unfold L84_0
 exact (lb fun _ => (lb fun _ => (lb fun _ => (lb fun _ => (condM_lim (lb fun _ => (lb fun _ => (lb fun _ => (lb fun _ => (lb fun _ => (lb fun _ => (lb fun _ => (lb fun _ => (lb fun _ => (lb fun _ => (hself _))))))))))) (LimM.const _))))))
theorem FL84_0 (call : CC) (vs : List AV) : fixW (L84_0 call fixW ) vs = L84_0 call fixW  (fixW (L84_0 call fixW )) vs := fixW_eq (XL84_0 ) vs
noncomputable def S84 (call : CC) (fx : Fix AV) (a0 a1 a2 : AV) : M AV :=
 bnd (lft (fieldAddrA T 28 (AV.ip (acells a2)) 4)) fun v0 =>
 bnd (lft (loadA T 25 v0)) fun v1 =>
 bnd (lft (lenA T 25 v1)) fun v2 =>
 bnd (lft (fieldAddrA T 28 (AV.ip (acells a2)) 5)) fun v3 =>
 bnd (lft (loadA T 26 v3)) fun v4 =>
 bnd (lft (lenA T 26 v4)) fun v5 =>
 bnd (lft (binA T .neq 3 v2 v5)) fun v6 =>
 bnd (guardM v6 false 1 (bnd (lft (fieldAddrA T 28 (AV.ip (acells a2)) 4)) fun v7 =>
 bnd (lft (loadA T 25 v7)) fun v8 =>
 bnd (call 91 [v8]) fun v9 =>
 bnd (lft (unA UnOp.not v9)) fun v10 =>
 M.pure [v10])) fun v11 =>
 bnd (lft (pickA v6 (AV.bool true) (nth v11 0))) fun v12 =>
 condM v12 (bnd (call 71 [a0, AV.int .i64 13]) fun v13 =>
 bnd (cellsNil 4 [] v13) fun v14 =>
 M.pure (AV.agg [nth (acells v14) 0, nth (acells v14) 1, nth (acells v14) 2, nth (acells v14) 3])) (bnd (lft (fieldAddrA T 28 (AV.ip (acells a2)) 4)) fun v15 =>
 bnd (lft (loadA T 25 v15)) fun v16 =>
 bnd (lft (lenA T 25 v16)) fun v17 =>
 bnd (lft (binA T .gtr 3 v17 (AV.int .i64 8))) fun v18 =>
 condM v18 (bnd (call 71 [a0, AV.int .i64 6]) fun v19 =>
 bnd (cellsNil 4 [] v19) fun v20 =>
 M.pure (AV.agg [nth (acells v20) 0, nth (acells v20) 1, nth (acells v20) 2, nth (acells v20) 3])) (bnd (lft (buildSliceA T 25 0 [])) fun v21 =>
 bnd (lft (fieldAddrA T 28 (AV.ip (acells a2)) 4)) fun v22 =>
 bnd (lft (loadA T 25 v22)) fun v23 =>
 bnd (lft (appA T 25 v21 v23)) fun v24 =>
 bnd (lft (buildA T true 39 [(0, AV.int .i64 2), (2, v24)])) fun v25 =>
 bnd (cellsNil 4 [3] v25) fun v26 =>
 fx (L84_0 call fx) [a0, AV.ip (acells a1), AV.ip (acells a2), AV.int .i64 0, AV.int .i64 0, AV.int .i64 0, AV.sl [], AV.sl [], nth (acells v26) 0, nth (acells v26) 1, nth (acells v26) 2, AV.sl []]))
theorem E84 (call : CC) (fx : Fix AV) (a0 a1 a2 : AV) : evBody (pg.cx call Try.f84.ntmps ann84) fx Try.f84 (own 84) [a0, a1, a2] = S84 call fx a0 a1 a2 := by kernel_rfl
theorem C84 (a0 a1 a2 : AV) : callW pg 84 [a0, a1, a2] = S84 (callW pg) fixW a0 a1 a2 := (callW_heap hOther rfl rfl rfl _).trans (E84 _ _ a0 a1 a2)
noncomputable def S90 (call : CC) (_fx : Fix AV) (a0 a1 : AV) : M AV :=
 bnd (lft (loadA T 39 (AV.ip (acells a0)))) fun v0 =>
 bnd (lft (loadA T 3 a1)) fun v1 =>
 bnd (lft (binA T .sub 3 v1 (AV.int .i64 1))) fun v2 =>
 bnd (call 52 [v0, v2]) fun v3 =>
 bnd (lft (unA UnOp.not v3)) fun v4 =>
 M.pure v4
theorem E90 (call : CC) (fx : Fix AV) (a0 a1 : AV) : evBody (pg.cx call Try.f90.ntmps ann90) fx Try.f90 (own 90) [a0, a1] = S90 call fx a0 a1 := by kernel_rfl
theorem C90 (a0 a1 : AV) : callW pg 90 [a0, a1] = isoP (S90 (callW pg) fixW (cl noHs a0) (cl noHs a1)) := (callW_iso hOther rfl rfl rfl _).trans (congrArg isoP (E90 _ _ (cl noHs a0) (cl noHs a1)))
noncomputable def L93_0 (call : CC) (_fx : Fix AV) (v4 : List AV → M AV) (v5 : List AV) : M AV :=
 bnd (lft (binA T .lss 3 (nth v5 4) (nth v5 3))) fun v6 =>
 condM v6 (bnd (lft (indexAddrA T 23 (nth v5 2) (nth v5 4))) fun v7 =>
 bnd (lft (loadA T 39 v7)) fun v8 =>
 bnd (cellsM 4 v8) fun v9 =>
 bnd (lft (indexAddrA T 23 (nth v5 0) (nth v5 4))) fun v10 =>
 bnd (lft (loadA T 39 v10)) fun v11 =>
 bnd (cellsM 4 v11) fun v12 =>
 bnd (lft (loadA T 39 (AV.ip (acells v9)))) fun v13 =>
 bnd (lft (loadA T 39 (AV.ip (acells v12)))) fun v14 =>
 bnd (callV call (nth v5 1) [v13, v14]) fun v15 =>
 bnd (lft (unA UnOp.not v15)) fun v16 =>
 condM v16 (M.pure (AV.bool false)) (bnd (lft (binA T .add 3 (nth v5 4) (AV.int .i64 1))) fun v17 =>
 v4 [nth v5 0, nth v5 1, nth v5 2, nth v5 3, v17])) (M.pure (AV.bool true))
theorem XL93_0 {call : CC} : Cont1 (L93_0 call fixW ) fun _n => L93_0 call fixW  := by
 intro v4 v4s hself v5
 unfold L93_0
 exact (lb fun _ => (condM_lim (lb fun _ => (lb fun _ => (lb fun _ => (lb fun _ => (lb fun _ => (lb fun _ => (lb fun _ => (lb fun _ => (lb fun _ => (lb fun _ => (condM_lim (LimM.const _) (lb fun _ => (hself _))))))))))))) (LimM.const _)))
theorem FL93_0 (call : CC) (vs : List AV) : fixW (L93_0 call fixW ) vs = L93_0 call fixW  (fixW (L93_0 call fixW )) vs := fixW_eq (XL93_0 ) vs
noncomputable def S93 (call : CC) (fx : Fix AV) (a0 a1 a2 : AV) : M AV :=
 bnd (lft (lenA T 23 a0)) fun v0 =>
 bnd (lft (lenA T 23 a1)) fun v1 =>
 bnd (lft (binA T .neq 3 v0 v1)) fun v2 =>
 condM v2 (M.pure (AV.bool false)) (bnd (lft (lenA T 23 a0)) fun v3 =>
 fx (L93_0 call fx) [a1, a2, a0, v3, AV.int .i64 0])
theorem E93 (call : CC) (fx : Fix AV) (a0 a1 a2 : AV) : evBody (pg.cx call Try.f93.ntmps ann93) fx Try.f93 (own 93) [a0, a1, a2] = S93 call fx a0 a1 a2 := by kernel_rfl
theorem C93 (a0 a1 a2 : AV) : callW pg 93 [a0, a1, a2] = isoP (S93 (callW pg) fixW (cl noHs a0) (cl noHs a1) (cl noHs a2)) := (callW_iso hOther rfl rfl rfl _).trans (congrArg isoP (E93 _ _ (cl noHs a0) (cl noHs a1) (cl noHs a2)))
noncomputable def L98_0 (call : CC) (_fx : Fix AV) (v1 : List AV → M AV) (v2 : List AV) : M AV :=
 bnd (lft (binA T .lss 3 (nth v2 3) (nth v2 2))) fun v3 =>
 condM v3 (bnd (lft (indexAddrA T 58 (nth v2 0) (nth v2 3))) fun v4 =>
 bnd (lft (loadA T 104 v4)) fun v5 =>
 bnd (callV call (nth v2 1) [v5]) fun v6 =>
 condM v6 (M.pure (nth v2 3)) (bnd (lft (binA T .add 3 (nth v2 3) (AV.int .i64 1))) fun v7 =>
 v1 [nth v2 0, nth v2 1, nth v2 2, v7])) (M.pure (AV.int .i64 (-1)))
theorem XL98_0 {call : CC} : Cont1 (L98_0 call fixW ) fun _n => L98_0 call fixW  := by
 intro v1 v1s hself v2
 unfold L98_0
 exact (lb fun _ => (condM_lim (lb fun _ => (lb fun _ => (lb fun _ => (condM_lim (LimM.const _) (lb fun _ => (hself _)))))) (LimM.const _)))
theorem FL98_0 (call : CC) (vs : List AV) : fixW (L98_0 call fixW ) vs = L98_0 call fixW  (fixW (L98_0 call fixW )) vs := fixW_eq (XL98_0 ) vs
noncomputable def S98 (call : CC) (fx : Fix AV) (a0 a1 : AV) : M AV :=
 bnd (lft (lenA T 58 a0)) fun v0 =>
 fx (L98_0 call fx) [a0, a1, v0, AV.int .i64 0]
theorem E98 (call : CC) (fx : Fix AV) (a0 a1 : AV) : evBody (pg.cx call Try.f98.ntmps ann98) fx Try.f98 (own 98) [a0, a1] = S98 call fx a0 a1 := by kernel_rfl
theorem C98 (a0 a1 : AV) : callW pg 98 [a0, a1] = isoP (S98 (callW pg) fixW (cl noHs a0) (cl noHs a1)) := (callW_iso hOther rfl rfl rfl _).trans (congrArg isoP (E98 _ _ (cl noHs a0) (cl noHs a1)))
noncomputable def S100 (call : CC) (_fx : Fix AV) (a0 : AV) : M AV :=
 bnd (lft (loadA T 39 (AV.ip (acells a0)))) fun v0 =>
 bnd (call 102 [v0, AV.int .i64 6]) fun v1 =>
 M.pure v1
theorem E100 (call : CC) (fx : Fix AV) (a0 : AV) : evBody (pg.cx call Try.f100.ntmps ann100) fx Try.f100 (own 100) [a0] = S100 call fx a0 := by kernel_rfl
theorem C100 (a0 : AV) : callW pg 100 [a0] = isoP (S100 (callW pg) fixW (cl noHs a0)) := (callW_iso hOther rfl rfl rfl _).trans (congrArg isoP (E100 _ _ (cl noHs a0)))
noncomputable def K101_0 (_call : CC) (_fx : Fix AV) (v26 : List AV) : M AV :=
 bnd (cellsNil 4 [] (AV.agg [nth v26 0, nth v26 1, nth v26 2, nth v26 3])) fun v27 =>
 M.pure (AV.agg [nth (acells v27) 0, nth (acells v27) 1, nth (acells v27) 2, nth (acells v27) 3])
noncomputable def S101 (call : CC) (fx : Fix AV) (a0 a1 a2 a3 : AV) : M AV :=
 bnd (cellsM 4 a2) fun v0 =>
 bnd (lft (binA T .eql 3 a1 (AV.int .i64 7))) fun v1 =>
 bnd (guardM v1 true 1 (bnd (lft (fieldAddrA T 39 (AV.ip (acells a3)) 0)) fun v2 =>
 bnd (lft (loadA T 3 v2)) fun v3 =>
 bnd (lft (binA T .eql 3 (nth (acells v0) 0) v3)) fun v4 =>
 M.pure [v4])) fun v5 =>
 bnd (lft (pickA v1 (nth v5 0) (AV.bool false))) fun v6 =>
 bnd (guardM v6 true 1 (bnd (lft (binA T .neq 3 (nth (acells v0) 0) (AV.int .i64 2))) fun v7 =>
 M.pure [v7])) fun v8 =>
 bnd (lft (pickA v6 (nth v8 0) (AV.bool false))) fun v9 =>
 condM v9 (bnd (lft (fieldAddrA T 39 (AV.ip (acells a3)) 1)) fun v10 =>
 bnd (lft (loadA T 3 v10)) fun v11 =>
 bnd (lft (binA T .eql 3 (nth (acells v0) 1) v11)) fun v12 =>
 bnd (call 83 [v12]) fun v13 =>
 bnd (cellsNil 4 [] v13) fun v14 =>
 M.pure (AV.agg [nth (acells v14) 0, nth (acells v14) 1, nth (acells v14) 2, nth (acells v14) 3])) (bnd (lft (binA T .eql 3 a1 (AV.int .i64 7))) fun v15 =>
 bnd (guardM v15 false 1 (bnd (lft (binA T .neq 3 (nth (acells v0) 0) (AV.int .i64 0))) fun v16 =>
 M.pure [v16])) fun v17 =>
 bnd (lft (pickA v15 (AV.bool true) (nth v17 0))) fun v18 =>
 bnd (guardM v18 false 1 (bnd (lft (fieldAddrA T 39 (AV.ip (acells a3)) 0)) fun v19 =>
 bnd (lft (loadA T 3 v19)) fun v20 =>
 bnd (lft (binA T .neq 3 v20 (AV.int .i64 0))) fun v21 =>
 M.pure [v21])) fun v22 =>
 bnd (lft (pickA v18 (AV.bool true) (nth v22 0))) fun v23 =>
 condM v23 (bnd (call 71 [a0, AV.int .i64 13]) fun v24 =>
 bnd (cellsNil 4 [] v24) fun v25 =>
 M.pure (AV.agg [nth (acells v25) 0, nth (acells v25) 1, nth (acells v25) 2, nth (acells v25) 3])) (jn (K101_0 call fx) fun v28 =>
 bnd (lft (binA T .eql 3 a1 (AV.int .i64 6))) fun v29 =>
 condM v29 (bnd (lft (fieldAddrA T 39 (AV.ip (acells a3)) 1)) fun v30 =>
 bnd (lft (loadA T 3 v30)) fun v31 =>
 bnd (lft (binA T .lss 3 (nth (acells v0) 1) v31)) fun v32 =>
 bnd (call 83 [v32]) fun v33 =>
 bnd (cellsNil 4 [] v33) fun v34 =>
 M.pure (AV.agg [nth (acells v34) 0, nth (acells v34) 1, nth (acells v34) 2, nth (acells v34) 3])) (bnd (lft (binA T .eql 3 a1 (AV.int .i64 3))) fun v35 =>
 condM v35 (bnd (lft (fieldAddrA T 39 (AV.ip (acells a3)) 1)) fun v36 =>
 bnd (lft (loadA T 3 v36)) fun v37 =>
 bnd (lft (binA T .add 3 (nth (acells v0) 1) v37)) fun v38 =>
 bnd (cell1M v38) fun _v39 =>
 v28 [nth (acells v0) 0, v38, nth (acells v0) 2, nth (acells v0) 3, AV.int .i64 0, AV.int .i64 0, AV.sl [], AV.sl []]) (bnd (lft (binA T .eql 3 a1 (AV.int .i64 4))) fun v40 =>
 condM v40 (bnd (lft (fieldAddrA T 39 (AV.ip (acells a3)) 1)) fun v41 =>
 bnd (lft (loadA T 3 v41)) fun v42 =>
 bnd (lft (binA T .sub 3 (nth (acells v0) 1) v42)) fun v43 =>
 bnd (cell1M v43) fun _v44 =>
 v28 [nth (acells v0) 0, v43, nth (acells v0) 2, nth (acells v0) 3, AV.int .i64 0, AV.int .i64 0, AV.sl [], AV.sl []]) (bnd (lft (fieldAddrA T 39 (AV.ip (acells a3)) 1)) fun v45 =>
 bnd (lft (loadA T 3 v45)) fun v46 =>
 bnd (lft (binA T .mul 3 (nth (acells v0) 1) v46)) fun v47 =>
 bnd (cell1M v47) fun _v48 =>
 v28 [nth (acells v0) 0, v47, nth (acells v0) 2, nth (acells v0) 3, AV.int .i64 0, AV.int .i64 0, AV.sl [], AV.sl []])))))
theorem E101 (call : CC) (fx : Fix AV) (a0 a1 a2 a3 : AV) : evBody (pg.cx call Try.f101.ntmps ann101) fx Try.f101 (own 101) [a0, a1, a2, a3] = S101 call fx a0 a1 a2 a3 := by kernel_rfl
theorem C101 (a0 a1 a2 a3 : AV) : callW pg 101 [a0, a1, a2, a3] = S101 (callW pg) fixW a0 a1 a2 a3 := (callW_heap hOther rfl rfl rfl _).trans (E101 _ _ a0 a1 a2 a3)
end Go.Proofs.Ytgbopmciiadmlaa

namespace Go.Proofs.Ytgbopmciiadmlaa
open Go Go.Av
set_option maxRecDepth 100000
noncomputable def L9_0 (call : CC) (_fx : Fix AV) (v2 : List AV → M AV) (v3 : List AV) : M AV :=
 bnd (lft (fieldAddrA T 28 (nth v3 2) 5)) fun v4 =>
 bnd (lft (loadA T 26 v4)) fun v5 =>
 bnd (lft (lenA T 26 v5)) fun v6 =>
 bnd (lft (binA T .lss 3 (nth v3 4) v6)) fun v7 =>
 bnd (guardM v7 true 1 (bnd (lft (binA T .leq 3 (nth v3 3) (nth v3 0))) fun v8 =>
 M.pure [v8])) fun v9 =>
 bnd (lft (pickA v7 (nth v9 0) (AV.bool false))) fun v10 =>
 condM v10 (bnd (lft (fieldAddrA T 28 (nth v3 2) 5)) fun v11 =>
 bnd (lft (loadA T 26 v11)) fun v12 =>
 bnd (lft (indexAddrA T 26 v12 (nth v3 4))) fun v13 =>
 bnd (lft (loadA T 28 v13)) fun v14 =>
 bnd (lft (binA T .sub 3 (nth v3 0) (nth v3 3))) fun v15 =>
 bnd (lft (binA T .sub 3 (nth v3 1) (AV.int .i64 1))) fun v16 =>
 bnd (call 9 [v14, v15, v16]) fun v17 =>
 bnd (lft (binA T .add 3 (nth v3 3) v17)) fun v18 =>
 bnd (lft (binA T .add 3 (nth v3 4) (AV.int .i64 1))) fun v19 =>
 v2 [nth v3 0, nth v3 1, nth v3 2, v18, v19]) (M.pure (nth v3 3))
theorem XL9_0 {call : CC} : Cont1 (L9_0 call fixW ) fun _n => L9_0 call fixW  := by
 intro v2 v2s hself v3
 unfold L9_0
 exact (lb fun _ => (lb fun _ => (lb fun _ => (lb fun _ => (lb fun _ => (lb fun _ => (condM_lim (lb fun _ => (lb fun _ => (lb fun _ => (lb fun _ => (lb fun _ => (lb fun _ => (lb fun _ => (lb fun _ => (lb fun _ => (hself _)))))))))) (LimM.const _))))))))
theorem FL9_0 (call : CC) (vs : List AV) : fixW (L9_0 call fixW ) vs = L9_0 call fixW  (fixW (L9_0 call fixW )) vs := fixW_eq (XL9_0 ) vs
noncomputable def S9 (call : CC) (fx : Fix AV) (a0 a1 a2 : AV) : M AV :=
 bnd (lft (binA T .lss 3 a2 (AV.int .i64 1))) fun v0 =>
 condM v0 (bnd (lft (binA T .add 3 a1 (AV.int .i64 1))) fun v1 =>
 M.pure v1) (fx (L9_0 call fx) [a1, a2, AV.ip (acells a0), AV.int .i64 1, AV.int .i64 0])
theorem E9 (call : CC) (fx : Fix AV) (a0 a1 a2 : AV) : evBody (pg.cx call Try.f9.ntmps ann9) fx Try.f9 (own 9) [a0, a1, a2] = S9 call fx a0 a1 a2 := by kernel_rfl
theorem C9 (a0 a1 a2 : AV) : callW pg 9 [a0, a1, a2] = isoP (S9 (callW pg) fixW (cl noHs a0) (cl noHs a1) (cl noHs a2)) := (callW_iso hOther rfl rfl rfl _).trans (congrArg isoP (E9 _ _ (cl noHs a0) (cl noHs a1) (cl noHs a2)))
noncomputable def L17_0 (call : CC) (_fx : Fix AV) (v42 : List AV → M AV) (v43 : List AV) : M AV :=
 bnd (lft (binA T .lss 3 (nth v43 6) (nth v43 5))) fun v44 =>
 condM v44 (bnd (lft (indexAddrA T 32 (nth v43 4) (nth v43 6))) fun v45 =>
 bnd (lft (loadA T 47 v45)) fun v46 =>
 bnd (cellsM 2 v46) fun v47 =>
 bnd (lft (loadA T 79 (nth v43 1))) fun v48 =>
 bnd (lft (loadA T 79 (nth v43 1))) fun v49 =>
 bnd (lft (nilChkA v49)) fun v50 =>
 bnd (lft (fieldAddrA T 81 v50 4)) fun v51 =>
 bnd (lft (fieldAddrA T 43 v51 4)) fun v52 =>
 bnd (loadH T 32 v52) fun v53 =>
 bnd (lft (fieldAddrA T 47 (AV.ip (acells v47)) 0)) fun v54 =>
 bnd (lft (loadA T 9 v54)) fun v55 =>
 bnd (lft (fieldAddrA T 47 (AV.ip (acells v47)) 1)) fun v56 =>
 bnd (lft (loadA T 23 v56)) fun v57 =>
 bnd (call 39 [v57]) fun v58 =>
 bnd (lft (buildA T false 47 [(0, v55), (1, v58)])) fun v59 =>
 bnd (lft (buildSliceA T 32 1 [(0, v59)])) fun v60 =>
 bnd (appH T 32 false v53 v60) fun v61 =>
 bnd (lft (nilChkA v48)) fun v62 =>
 bnd (lft (fieldAddrA T 81 v62 4)) fun v63 =>
 bnd (lft (fieldAddrA T 43 v63 4)) fun v64 =>
 bnd (storeH T 32 v64 v61) fun _v65 =>
 bnd (lft (binA T .add 3 (nth v43 6) (AV.int .i64 1))) fun v66 =>
 v42 [nth v43 0, nth v43 1, nth v43 2, nth v43 3, nth v43 4, nth v43 5, v66, nth v43 7, nth v43 8, nth v43 9, nth v43 10, nth v43 11, nth v43 12, nth v43 13, nth v43 14]) (bnd (lft (loadA T 79 (nth v43 1))) fun v67 =>
 bnd (lft (loadA T 79 (nth v43 1))) fun v68 =>
 bnd (call 40 [AV.fn (Fn.func 41) [] [nth v43 1, nth v43 2, nth v43 3, nth v43 0]]) fun v69 =>
 bnd (lft (extractA v69 0)) fun v70 =>
 bnd (lft (extractA v69 1)) fun v71 =>
 bnd (lft (nilChkA v67)) fun v72 =>
 bnd (lft (fieldAddrA T 81 v72 4)) fun v73 =>
 bnd (lft (fieldAddrA T 43 v73 1)) fun v74 =>
 bnd (storeH T 39 v74 v70) fun _v75 =>
 bnd (lft (nilChkA v68)) fun v76 =>
 bnd (lft (fieldAddrA T 81 v76 4)) fun v77 =>
 bnd (lft (fieldAddrA T 43 v77 0)) fun v78 =>
 bnd (storeH T 33 v78 v71) fun _v79 =>
 bnd (lft (loadA T 79 (nth v43 1))) fun v80 =>
 bnd (lft (nilChkA v80)) fun v81 =>
 bnd (lft (fieldAddrA T 81 v81 4)) fun v82 =>
 bnd (loadH T 43 v82) fun v83 =>
 bnd (cellsNil 8 [] v83) fun v84 =>
 M.pure (AV.agg [nth (acells v84) 0, nth (acells v84) 1, nth (acells v84) 2, nth (acells v84) 3, nth (acells v84) 4, nth (acells v84) 5, nth (acells v84) 6, nth (acells v84) 7]))
theorem XL17_0 {call : CC} : Cont1 (L17_0 call fixW ) fun _n => L17_0 call fixW  := by
 intro v42 v42s hself v43
 unfold L17_0
 exact (lb fun _ => (condM_lim (lb fun _ => (lb fun _ => (lb fun _ => (lb fun _ => (lb fun _ => (lb fun _ => (lb fun _ => (lb fun _ => (lb fun _ => (lb fun _ => (lb fun _ => (lb fun _ => (lb fun _ => (lb fun _ => (lb fun _ => (lb fun _ => (lb fun _ => (lb fun _ => (lb fun _ => (lb fun _ => (lb fun _ => (lb fun _ => (hself _))))))))))))))))))))))) (LimM.const _)))
theorem FL17_0 (call : CC) (vs : List AV) : fixW (L17_0 call fixW ) vs = L17_0 call fixW  (fixW (L17_0 call fixW )) vs := fixW_eq (XL17_0 ) vs
noncomputable def S17 (call : CC) (fx : Fix AV) (a0 a1 a2 a3 a4 a5 a6 : AV) : M AV :=
 bnd (call 32 [a0]) fun v0 =>
 bnd (lft (binA T .neq 33 v0 (AV.int .i64 0))) fun v1 =>
 condM v1 (bnd (lft (buildA T false 43 [(0, v0)])) fun v2 =>
 bnd (cellsNil 8 [] v2) fun v3 =>
 M.pure (AV.agg [nth (acells v3) 0, nth (acells v3) 1, nth (acells v3) 2, nth (acells v3) 3, nth (acells v3) 4, nth (acells v3) 5, nth (acells v3) 6, nth (acells v3) 7])) (bnd (lft (binA T .lss 3 a6 (AV.int .i64 0))) fun v4 =>
 bnd (guardM v4 false 1 (bnd (lft (binA T .gtr 3 a6 (AV.int .i64 100000))) fun v5 =>
 M.pure [v5])) fun v6 =>
 bnd (lft (pickA v4 (AV.bool true) (nth v6 0))) fun v7 =>
 bnd (guardM v7 false 1 (bnd (call 34 [a0, a1]) fun v8 =>
 bnd (lft (unA UnOp.not v8)) fun v9 =>
 M.pure [v9])) fun v10 =>
 bnd (lft (pickA v7 (AV.bool true) (nth v10 0))) fun v11 =>
 condM v11 (bnd (lft (buildA T false 43 [(0, AV.int .i64 1)])) fun v12 =>
 bnd (cellsNil 8 [] v12) fun v13 =>
 M.pure (AV.agg [nth (acells v13) 0, nth (acells v13) 1, nth (acells v13) 2, nth (acells v13) 3, nth (acells v13) 4, nth (acells v13) 5, nth (acells v13) 6, nth (acells v13) 7])) (bnd (lft (buildA T true 81 [(0, a0), (1, a5), (2, a6)])) fun v14 =>
 bnd (newH (acells v14)) fun v15 =>
 bnd (cellsM 1 v15) fun v16 =>
 bnd (lft (loadA T 79 (AV.ip (acells v16)))) fun v17 =>
 bnd (call 35 [v17, a2]) fun v18 =>
 bnd (cellsM 1 v18) fun v19 =>
 bnd (lft (loadA T 79 (AV.ip (acells v16)))) fun v20 =>
 bnd (lft (loadA T 3 (AV.ip (acells v19)))) fun v21 =>
 bnd (call 36 [v20, v21, a3]) fun v22 =>
 bnd (lft (extractA v22 0)) fun v23 =>
 bnd (lft (extractA v22 1)) fun v24 =>
 bnd (cellsM 12 v23) fun v25 =>
 bnd (lft (unA UnOp.not v24)) fun v26 =>
 condM v26 (bnd (lft (buildA T false 43 [(0, AV.int .i64 4)])) fun v27 =>
 bnd (cellsNil 8 [] v27) fun v28 =>
 M.pure (AV.agg [nth (acells v28) 0, nth (acells v28) 1, nth (acells v28) 2, nth (acells v28) 3, nth (acells v28) 4, nth (acells v28) 5, nth (acells v28) 6, nth (acells v28) 7])) (bnd (lft (loadA T 23 (AV.ip (acells a4)))) fun v29 =>
 bnd (lft (lenA T 23 v29)) fun v30 =>
 bnd (lft (fieldAddrA T 67 (AV.ip (acells v25)) 2)) fun v31 =>
 bnd (lft (loadA T 58 v31)) fun v32 =>
 bnd (lft (lenA T 58 v32)) fun v33 =>
 bnd (lft (binA T .neq 3 v30 v33)) fun v34 =>
 bnd (guardM v34 false 1 (bnd (lft (loadA T 23 (AV.ip (acells a4)))) fun v35 =>
 bnd (call 37 [v35, AV.fn (Fn.func 38) [] []]) fun v36 =>
 M.pure [v36])) fun v37 =>
 bnd (lft (pickA v34 (AV.bool true) (nth v37 0))) fun v38 =>
 condM v38 (bnd (lft (buildA T false 43 [(0, AV.int .i64 13)])) fun v39 =>
 bnd (cellsNil 8 [] v39) fun v40 =>
 M.pure (AV.agg [nth (acells v40) 0, nth (acells v40) 1, nth (acells v40) 2, nth (acells v40) 3, nth (acells v40) 4, nth (acells v40) 5, nth (acells v40) 6, nth (acells v40) 7])) (bnd (lft (lenA T 32 a1)) fun v41 =>
 fx (L17_0 call fx) [AV.ip (acells a4), AV.ip (acells v16), AV.ip (acells v19), AV.ip (acells v25), a1, v41, AV.int .i64 0, AV.int .i64 0, AV.int .i64 0, AV.int .i64 0, AV.sl [], AV.sl [], AV.sl [], AV.sl [], AV.sl []]))))
theorem E17 (call : CC) (fx : Fix AV) (a0 a1 a2 a3 a4 a5 a6 : AV) : evBody (pg.cx call Try.f17.ntmps ann17) fx Try.f17 (own 17) [a0, a1, a2, a3, a4, a5, a6] = S17 call fx a0 a1 a2 a3 a4 a5 a6 := by kernel_rfl
theorem C17 (a0 a1 a2 a3 a4 a5 a6 : AV) : callW pg 17 [a0, a1, a2, a3, a4, a5, a6] = isoP (S17 (callW pg) fixW (cl noHs a0) (cl noHs a1) (cl noHs a2) (cl noHs a3) (cl noHs a4) (cl noHs a5) (cl noHs a6)) := (callW_iso hOther rfl rfl rfl _).trans (congrArg isoP (E17 _ _ (cl noHs a0) (cl noHs a1) (cl noHs a2) (cl noHs a3) (cl noHs a4) (cl noHs a5) (cl noHs a6)))
noncomputable def S21 (call : CC) (_fx : Fix AV) (a0 : AV) : M AV :=
 bnd (lft (loadA T 39 (AV.ip (acells a0)))) fun v0 =>
 bnd (call 52 [v0, AV.int .i64 4]) fun v1 =>
 M.pure v1
theorem E21 (call : CC) (fx : Fix AV) (a0 : AV) : evBody (pg.cx call Try.f21.ntmps ann21) fx Try.f21 (own 21) [a0] = S21 call fx a0 := by kernel_rfl
theorem C21 (a0 : AV) : callW pg 21 [a0] = isoP (S21 (callW pg) fixW (cl noHs a0)) := (callW_iso hOther rfl rfl rfl _).trans (congrArg isoP (E21 _ _ (cl noHs a0)))
noncomputable def S23 (call : CC) (_fx : Fix AV) (a0 a1 : AV) : M AV :=
 bnd (lft (loadA T 39 (AV.ip (acells a0)))) fun v0 =>
 bnd (call 21 [v0]) fun v1 =>
 bnd (guardM v1 true 1 (bnd (lft (loadA T 39 (AV.ip (acells a1)))) fun v2 =>
 bnd (call 21 [v2]) fun v3 =>
 M.pure [v3])) fun v4 =>
 bnd (lft (pickA v1 (nth v4 0) (AV.bool false))) fun v5 =>
 bnd (guardM v5 true 1 (bnd (lft (loadA T 39 (AV.ip (acells a0)))) fun v6 =>
 bnd (lft (loadA T 39 (AV.ip (acells a1)))) fun v7 =>
 bnd (call 54 [v6, v7]) fun v8 =>
 M.pure [v8])) fun v9 =>
 bnd (lft (pickA v5 (nth v9 0) (AV.bool false))) fun v10 =>
 M.pure v10
theorem E23 (call : CC) (fx : Fix AV) (a0 a1 : AV) : evBody (pg.cx call Try.f23.ntmps ann23) fx Try.f23 (own 23) [a0, a1] = S23 call fx a0 a1 := by kernel_rfl
theorem C23 (a0 a1 : AV) : callW pg 23 [a0, a1] = isoP (S23 (callW pg) fixW (cl noHs a0) (cl noHs a1)) := (callW_iso hOther rfl rfl rfl _).trans (congrArg isoP (E23 _ _ (cl noHs a0) (cl noHs a1)))
noncomputable def L26_0 (call : CC) (_fx : Fix AV) (v3 : List AV → M AV) (v4 : List AV) : M AV :=
 bnd (lft (lenA T 23 (nth v4 0))) fun v5 =>
 bnd (lft (binA T .lss 3 (nth v4 2) v5)) fun v6 =>
 condM v6 (bnd (lft (indexAddrA T 23 (nth v4 0) (nth v4 2))) fun v7 =>
 bnd (lft (loadA T 39 v7)) fun v8 =>
 bnd (lft (indexAddrA T 23 (nth v4 1) (nth v4 2))) fun v9 =>
 bnd (lft (loadA T 39 v9)) fun v10 =>
 bnd (noPan (call 24 [v8, v10])) fun v11 =>
 bnd (lft (unA UnOp.not v11)) fun v12 =>
 condM v12 (M.pure (AV.bool false)) (bnd (lft (binA T .add 3 (nth v4 2) (AV.int .i64 1))) fun v13 =>
 v3 [nth v4 0, nth v4 1, v13])) (M.pure (AV.bool true))
theorem XL26_0 {call : CC} : Cont1 (L26_0 call fixW ) fun _n => L26_0 call fixW  := by
 intro v3 v3s hself v4
 unfold L26_0
 exact (lb fun _ => (lb fun _ => (condM_lim (lb fun _ => (lb fun _ => (lb fun _ => (lb fun _ => (lb fun _ => (lb fun _ => (condM_lim (LimM.const _) (lb fun _ => (hself _))))))))) (LimM.const _))))
theorem FL26_0 (call : CC) (vs : List AV) : fixW (L26_0 call fixW ) vs = L26_0 call fixW  (fixW (L26_0 call fixW )) vs := fixW_eq (XL26_0 ) vs
noncomputable def S26 (call : CC) (fx : Fix AV) (a0 a1 : AV) : M AV :=
 bnd (lft (lenA T 23 a0)) fun v0 =>
 bnd (lft (lenA T 23 a1)) fun v1 =>
 bnd (lft (binA T .neq 3 v0 v1)) fun v2 =>
 condM v2 (M.pure (AV.bool false)) (fx (L26_0 call fx) [a0, a1, AV.int .i64 0])
theorem E26 (call : CC) (fx : Fix AV) (a0 a1 : AV) : evBody (pg.cx call Try.f26.ntmps ann26) fx Try.f26 (own 26) [a0, a1] = S26 call fx a0 a1 := by kernel_rfl
theorem C26 (a0 a1 : AV) : callW pg 26 [a0, a1] = isoP (S26 (callW pg) fixW (cl noHs a0) (cl noHs a1)) := (callW_iso hOther rfl rfl rfl _).trans (congrArg isoP (E26 _ _ (cl noHs a0) (cl noHs a1)))
noncomputable def S34 (call : CC) (_fx : Fix AV) (a0 a1 : AV) : M AV :=
 bnd (call 60 [a0, a1, AV.fn (Fn.func 61) [] []]) fun v0 =>
 M.pure v0
theorem E34 (call : CC) (fx : Fix AV) (a0 a1 : AV) : evBody (pg.cx call Try.f34.ntmps ann34) fx Try.f34 (own 34) [a0, a1] = S34 call fx a0 a1 := by kernel_rfl
theorem C34 (a0 a1 : AV) : callW pg 34 [a0, a1] = isoP (S34 (callW pg) fixW (cl noHs a0) (cl noHs a1)) := (callW_iso hOther rfl rfl rfl _).trans (congrArg isoP (E34 _ _ (cl noHs a0) (cl noHs a1)))
noncomputable def S38 (call : CC) (_fx : Fix AV) (a0 : AV) : M AV :=
 bnd (lft (loadA T 39 (AV.ip (acells a0)))) fun v0 =>
 bnd (call 21 [v0]) fun v1 =>
 bnd (lft (unA UnOp.not v1)) fun v2 =>
 M.pure v2
theorem E38 (call : CC) (fx : Fix AV) (a0 : AV) : evBody (pg.cx call Try.f38.ntmps ann38) fx Try.f38 (own 38) [a0] = S38 call fx a0 := by kernel_rfl
theorem C38 (a0 : AV) : callW pg 38 [a0] = isoP (S38 (callW pg) fixW (cl noHs a0)) := (callW_iso hOther rfl rfl rfl _).trans (congrArg isoP (E38 _ _ (cl noHs a0)))
noncomputable def L43_0 (call : CC) (_fx : Fix AV) (v3 : List AV → M AV) (v4 : List AV) : M AV :=
 bnd (lft (lenA T 32 (nth v4 1))) fun v5 =>
 bnd (lft (binA T .lss 3 (nth v4 2) v5)) fun v6 =>
 condM v6 (bnd (lft (indexAddrA T 32 (nth v4 1) (nth v4 2))) fun v7 =>
 bnd (lft (fieldAddrA T 47 v7 0)) fun v8 =>
 bnd (lft (loadA T 9 v8)) fun v9 =>
 bnd (lft (indexAddrA T 22 (nth v4 0) (nth v4 2))) fun v10 =>
 bnd (lft (fieldAddrA T 63 v10 0)) fun v11 =>
 bnd (lft (loadA T 9 v11)) fun v12 =>
 bnd (lft (binA T .neq 9 v9 v12)) fun v13 =>
 bnd (guardM v13 false 1 (bnd (lft (indexAddrA T 32 (nth v4 1) (nth v4 2))) fun v14 =>
 bnd (lft (fieldAddrA T 47 v14 1)) fun v15 =>
 bnd (lft (loadA T 23 v15)) fun v16 =>
 bnd (lft (lenA T 23 v16)) fun v17 =>
 bnd (lft (indexAddrA T 22 (nth v4 0) (nth v4 2))) fun v18 =>
 bnd (lft (fieldAddrA T 63 v18 2)) fun v19 =>
 bnd (lft (loadA T 58 v19)) fun v20 =>
 bnd (lft (lenA T 58 v20)) fun v21 =>
 bnd (lft (binA T .neq 3 v17 v21)) fun v22 =>
 M.pure [v22])) fun v23 =>
 bnd (lft (pickA v13 (AV.bool true) (nth v23 0))) fun v24 =>
 bnd (guardM v24 false 1 (bnd (lft (indexAddrA T 32 (nth v4 1) (nth v4 2))) fun v25 =>
 bnd (lft (fieldAddrA T 47 v25 1)) fun v26 =>
 bnd (lft (loadA T 23 v26)) fun v27 =>
 bnd (noPan (call 46 [v27])) fun v28 =>
 bnd (lft (unA UnOp.not v28)) fun v29 =>
 M.pure [v29])) fun v30 =>
 bnd (lft (pickA v24 (AV.bool true) (nth v30 0))) fun v31 =>
 condM v31 (M.pure (AV.bool false)) (bnd (lft (binA T .add 3 (nth v4 2) (AV.int .i64 1))) fun v32 =>
 v3 [nth v4 0, nth v4 1, v32])) (M.pure (AV.bool true))
theorem XL43_0 {call : CC} : Cont1 (L43_0 call fixW ) fun _n => L43_0 call fixW  := by
 intro v3 v3s hself v4
 unfold L43_0
 exact (lb fun _ => (lb fun _ => (condM_lim (lb fun _ => (lb fun _ => (lb fun _ => (lb fun _ => (lb fun _ => (lb fun _ => (lb fun _ => (lb fun _ => (lb fun _ => (lb fun _ => (lb fun _ => (condM_lim (LimM.const _) (lb fun _ => (hself _)))))))))))))) (LimM.const _))))
theorem FL43_0 (call : CC) (vs : List AV) : fixW (L43_0 call fixW ) vs = L43_0 call fixW  (fixW (L43_0 call fixW )) vs := fixW_eq (XL43_0 ) vs
noncomputable def S43 (call : CC) (fx : Fix AV) (a0 a1 : AV) : M AV :=
 bnd (lft (lenA T 22 a0)) fun v0 =>
 bnd (lft (lenA T 32 a1)) fun v1 =>
 bnd (lft (binA T .neq 3 v0 v1)) fun v2 =>
 condM v2 (M.pure (AV.bool false)) (fx (L43_0 call fx) [a0, a1, AV.int .i64 0])
theorem E43 (call : CC) (fx : Fix AV) (a0 a1 : AV) : evBody (pg.cx call Try.f43.ntmps ann43) fx Try.f43 (own 43) [a0, a1] = S43 call fx a0 a1 := by kernel_rfl
theorem C43 (a0 a1 : AV) : callW pg 43 [a0, a1] = isoP (S43 (callW pg) fixW (cl noHs a0) (cl noHs a1)) := (callW_iso hOther rfl rfl rfl _).trans (congrArg isoP (E43 _ _ (cl noHs a0) (cl noHs a1)))
noncomputable def L45_0 (_call : CC) (_fx : Fix AV) (v1 : List AV → M AV) (v2 : List AV) : M AV :=
 bnd (lft (indexAddrA T 22 (nth v2 0) (nth v2 1))) fun v3 =>
 bnd (lft (fieldAddrA T 63 v3 4)) fun v4 =>
 bnd (lft (loadA T 59 v4)) fun v5 =>
 bnd (lft (lenA T 59 v5)) fun v6 =>
 bnd (lft (binA T .lss 3 (nth v2 3) v6)) fun v7 =>
 condM v7 (bnd (lft (indexAddrA T 22 (nth v2 0) (nth v2 1))) fun v8 =>
 bnd (lft (fieldAddrA T 63 v8 4)) fun v9 =>
 bnd (lft (loadA T 59 v9)) fun v10 =>
 bnd (lft (indexAddrA T 59 v10 (nth v2 3))) fun v11 =>
 bnd (lft (fieldAddrA T 67 v11 0)) fun v12 =>
 bnd (lft (loadA T 9 v12)) fun v13 =>
 bnd (lft (binA T .eql 9 v13 (nth v2 2))) fun v14 =>
 condM v14 (M.pure (nth v2 3)) (bnd (lft (binA T .add 3 (nth v2 3) (AV.int .i64 1))) fun v15 =>
 v1 [nth v2 0, nth v2 1, nth v2 2, v15])) (M.pure (AV.int .i64 (-1)))
theorem XL45_0 {call : CC} : Cont1 (L45_0 call fixW ) fun _n => L45_0 call fixW  := by
 intro v1 v1s hself v2
 unfold L45_0
 exact (lb fun _ => (lb fun _ => (lb fun _ => (lb fun _ => (lb fun _ => (condM_lim (lb fun _ => (lb fun _ => (lb fun _ => (lb fun _ => (lb fun _ => (lb fun _ => (lb fun _ => (condM_lim (LimM.const _) (lb fun _ => (hself _)))))))))) (LimM.const _)))))))
theorem FL45_0 (call : CC) (vs : List AV) : fixW (L45_0 call fixW ) vs = L45_0 call fixW  (fixW (L45_0 call fixW )) vs := fixW_eq (XL45_0 ) vs
noncomputable def S45 (call : CC) (fx : Fix AV) (a0 a1 a2 : AV) : M AV :=
 bnd (lft (binA T .lss 3 a1 (AV.int .i64 0))) fun v0 =>
 condM v0 (M.pure (AV.int .i64 (-1))) (fx (L45_0 call fx) [a0, a1, a2, AV.int .i64 0])
theorem E45 (call : CC) (fx : Fix AV) (a0 a1 a2 : AV) : evBody (pg.cx call Try.f45.ntmps ann45) fx Try.f45 (own 45) [a0, a1, a2] = S45 call fx a0 a1 a2 := by kernel_rfl
theorem C45 (a0 a1 a2 : AV) : callW pg 45 [a0, a1, a2] = isoP (S45 (callW pg) fixW (cl noHs a0) (cl noHs a1) (cl noHs a2)) := (callW_iso hOther rfl rfl rfl _).trans (congrArg isoP (E45 _ _ (cl noHs a0) (cl noHs a1) (cl noHs a2)))
noncomputable def L51_0 (call : CC) (_fx : Fix AV) (v64 : List AV → M AV) (v65 : List AV) : M AV :=
 bnd (lft (binA T .geq 3 (nth v65 3) (AV.int .i64 0))) fun v66 =>
 condM v66 (bnd (lft (fieldAddrA T 101 (nth v65 1) 1)) fun v67 =>
 bnd (lft (loadA T 25 v67)) fun v68 =>
 bnd (lft (indexAddrA T 25 v68 (nth v65 3))) fun v69 =>
 bnd (lft (loadA T 9 v69)) fun v70 =>
 bnd (lft (fieldAddrA T 28 (nth v65 2) 2)) fun v71 =>
 bnd (lft (loadA T 9 v71)) fun v72 =>
 bnd (lft (binA T .eql 9 v70 v72)) fun v73 =>
 condM v73 (bnd (lft (fieldAddrA T 101 (nth v65 1) 2)) fun v74 =>
 bnd (lft (loadA T 23 v74)) fun v75 =>
 bnd (lft (indexAddrA T 23 v75 (nth v65 3))) fun v76 =>
 bnd (lft (loadA T 39 v76)) fun v77 =>
 bnd (cellsNil 4 [] v77) fun v78 =>
 M.pure (AV.agg [nth (acells v78) 0, nth (acells v78) 1, nth (acells v78) 2, nth (acells v78) 3])) (bnd (lft (binA T .sub 3 (nth v65 3) (AV.int .i64 1))) fun v79 =>
 v64 [nth v65 0, nth v65 1, nth v65 2, v79, nth v65 4, nth v65 5, nth v65 6, nth v65 7])) (bnd (call 71 [nth v65 0, AV.int .i64 12]) fun v80 =>
 bnd (cellsNil 4 [] v80) fun v81 =>
 M.pure (AV.agg [nth (acells v81) 0, nth (acells v81) 1, nth (acells v81) 2, nth (acells v81) 3]))
noncomputable def K51_0 (call : CC) (_fx : Fix AV) (v97 : List AV) : M AV :=
 condM (nth v97 4) (bnd (lft (loadA T 101 (nth v97 1))) fun v98 =>
 bnd (lft (loadA T 28 (nth v97 2))) fun v99 =>
 bnd (call 87 [nth v97 0, v98, v99]) fun v100 =>
 bnd (cellsNil 4 [] v100) fun v101 =>
 M.pure (AV.agg [nth (acells v101) 0, nth (acells v101) 1, nth (acells v101) 2, nth (acells v101) 3])) (bnd (lft (binA T .eql 3 (nth v97 3) (AV.int .i64 12))) fun v102 =>
 condM v102 (bnd (lft (loadA T 101 (nth v97 1))) fun v103 =>
 bnd (lft (fieldAddrA T 28 (nth v97 2) 5)) fun v104 =>
 bnd (lft (loadA T 26 v104)) fun v105 =>
 bnd (lft (indexAddrA T 26 v105 (AV.int .i64 0))) fun v106 =>
 bnd (lft (loadA T 28 v106)) fun v107 =>
 bnd (call 51 [nth v97 0, v103, v107]) fun v108 =>
 bnd (cellsM 4 v108) fun v109 =>
 bnd (lft (loadA T 101 (nth v97 1))) fun v110 =>
 bnd (lft (fieldAddrA T 28 (nth v97 2) 2)) fun v111 =>
 bnd (lft (loadA T 9 v111)) fun v112 =>
 bnd (lft (loadA T 39 (AV.ip (acells v109)))) fun v113 =>
 bnd (noPan (call 72 [v110, v112, v113])) fun v114 =>
 bnd (lft (fieldAddrA T 28 (nth v97 2) 5)) fun v115 =>
 bnd (lft (loadA T 26 v115)) fun v116 =>
 bnd (lft (indexAddrA T 26 v116 (AV.int .i64 1))) fun v117 =>
 bnd (lft (loadA T 28 v117)) fun v118 =>
 bnd (call 51 [nth v97 0, v114, v118]) fun v119 =>
 bnd (cellsNil 4 [] v119) fun v120 =>
 M.pure (AV.agg [nth (acells v120) 0, nth (acells v120) 1, nth (acells v120) 2, nth (acells v120) 3])) (bnd (lft (loadA T 101 (nth v97 1))) fun v121 =>
 bnd (lft (loadA T 28 (nth v97 2))) fun v122 =>
 bnd (call 88 [nth v97 0, v121, v122]) fun v123 =>
 bnd (cellsNil 4 [] v123) fun v124 =>
 M.pure (AV.agg [nth (acells v124) 0, nth (acells v124) 1, nth (acells v124) 2, nth (acells v124) 3])))
theorem XL51_0 {call : CC} : Cont1 (L51_0 call fixW ) fun _n => L51_0 call fixW  := by
 intro v64 v64s hself v65
 unfold L51_0
 exact (lb fun _ => (condM_lim (lb fun _ => (lb fun _ => (lb fun _ => (lb fun _ => (lb fun _ => (lb fun _ => (lb fun _ => (condM_lim (LimM.const _) (lb fun _ => (hself _)))))))))) (LimM.const _)))
theorem FL51_0 (call : CC) (vs : List AV) : fixW (L51_0 call fixW ) vs = L51_0 call fixW  (fixW (L51_0 call fixW )) vs := fixW_eq (XL51_0 ) vs
noncomputable def S51 (call : CC) (fx : Fix AV) (a0 a1 a2 : AV) : M AV :=
 bnd (lft (nilChkA a0)) fun v0 =>
 bnd (lft (fieldAddrA T 95 v0 1)) fun v1 =>
 bnd (lft (fieldAddrA T 43 v1 0)) fun v2 =>
 bnd (loadH T 33 v2) fun v3 =>
 bnd (lft (binA T .neq 33 v3 (AV.int .i64 0))) fun v4 =>
 condM v4 (bnd (lft (buildA T false 39 [])) fun v5 =>
 bnd (cellsNil 4 [] v5) fun v6 =>
 M.pure (AV.agg [nth (acells v6) 0, nth (acells v6) 1, nth (acells v6) 2, nth (acells v6) 3])) (bnd (lft (nilChkA a0)) fun v7 =>
 bnd (lft (fieldAddrA T 95 v7 4)) fun v8 =>
 bnd (loadH T 3 v8) fun v9 =>
 bnd (lft (binA T .leq 3 v9 (AV.int .i64 0))) fun v10 =>
 condM v10 (bnd (call 71 [a0, AV.int .i64 16]) fun v11 =>
 bnd (cellsNil 4 [] v11) fun v12 =>
 M.pure (AV.agg [nth (acells v12) 0, nth (acells v12) 1, nth (acells v12) 2, nth (acells v12) 3])) (bnd (lft (nilChkA a0)) fun v13 =>
 bnd (lft (fieldAddrA T 95 v13 4)) fun v14 =>
 bnd (loadH T 3 v14) fun v15 =>
 bnd (lft (binA T .sub 3 v15 (AV.int .i64 1))) fun v16 =>
 bnd (lft (nilChkA a0)) fun v17 =>
 bnd (lft (fieldAddrA T 95 v17 4)) fun v18 =>
 bnd (storeH T 3 v18 v16) fun _v19 =>
 bnd (lft (fieldAddrA T 28 (AV.ip (acells a2)) 0)) fun v20 =>
 bnd (lft (loadA T 3 v20)) fun v21 =>
 bnd (call 82 [v21]) fun v22 =>
 bnd (lft (binA T .eql 3 v22 (AV.int .i64 (-2)))) fun v23 =>
 bnd (guardM v23 false 1 (bnd (lft (binA T .geq 3 v22 (AV.int .i64 0))) fun v24 =>
 M.pure [v24])) fun v25 =>
 bnd (guardM (nth v25 0) true 1 (bnd (lft (fieldAddrA T 28 (AV.ip (acells a2)) 5)) fun v26 =>
 bnd (lft (loadA T 26 v26)) fun v27 =>
 bnd (lft (lenA T 26 v27)) fun v28 =>
 bnd (lft (binA T .neq 3 v22 v28)) fun v29 =>
 M.pure [v29])) fun v30 =>
 bnd (guardM v23 false 1 (bnd (lft (pickA (nth v25 0) (nth v30 0) (AV.bool false))) fun v31 =>
 M.pure [v31])) fun v32 =>
 bnd (lft (pickA v23 (AV.bool true) (nth v32 0))) fun v33 =>
 condM v33 (bnd (call 71 [a0, AV.int .i64 13]) fun v34 =>
 bnd (cellsNil 4 [] v34) fun v35 =>
 M.pure (AV.agg [nth (acells v35) 0, nth (acells v35) 1, nth (acells v35) 2, nth (acells v35) 3])) (bnd (lft (fieldAddrA T 28 (AV.ip (acells a2)) 0)) fun v36 =>
 bnd (lft (loadA T 3 v36)) fun v37 =>
 bnd (lft (binA T .eql 3 v37 (AV.int .i64 0))) fun v38 =>
 condM v38 (bnd (lft (fieldAddrA T 28 (AV.ip (acells a2)) 1)) fun v39 =>
 bnd (lft (loadA T 3 v39)) fun v40 =>
 bnd (lft (buildA T false 39 [(0, AV.int .i64 0), (1, v40)])) fun v41 =>
 bnd (cellsNil 4 [] v41) fun v42 =>
 M.pure (AV.agg [nth (acells v42) 0, nth (acells v42) 1, nth (acells v42) 2, nth (acells v42) 3])) (bnd (lft (binA T .eql 3 v37 (AV.int .i64 1))) fun v43 =>
 condM v43 (bnd (lft (fieldAddrA T 28 (AV.ip (acells a2)) 1)) fun v44 =>
 bnd (lft (loadA T 3 v44)) fun v45 =>
 bnd (lft (binA T .lss 3 v45 (AV.int .i64 0))) fun v46 =>
 bnd (guardM v46 false 1 (bnd (lft (fieldAddrA T 28 (AV.ip (acells a2)) 1)) fun v47 =>
 bnd (lft (loadA T 3 v47)) fun v48 =>
 bnd (lft (binA T .gtr 3 v48 (AV.int .i64 1))) fun v49 =>
 M.pure [v49])) fun v50 =>
 bnd (lft (pickA v46 (AV.bool true) (nth v50 0))) fun v51 =>
 condM v51 (bnd (call 71 [a0, AV.int .i64 13]) fun v52 =>
 bnd (cellsNil 4 [] v52) fun v53 =>
 M.pure (AV.agg [nth (acells v53) 0, nth (acells v53) 1, nth (acells v53) 2, nth (acells v53) 3])) (bnd (lft (fieldAddrA T 28 (AV.ip (acells a2)) 1)) fun v54 =>
 bnd (lft (loadA T 3 v54)) fun v55 =>
 bnd (lft (binA T .eql 3 v55 (AV.int .i64 1))) fun v56 =>
 bnd (call 83 [v56]) fun v57 =>
 bnd (cellsNil 4 [] v57) fun v58 =>
 M.pure (AV.agg [nth (acells v58) 0, nth (acells v58) 1, nth (acells v58) 2, nth (acells v58) 3]))) (bnd (lft (binA T .eql 3 v37 (AV.int .i64 2))) fun v59 =>
 condM v59 (bnd (lft (fieldAddrA T 101 (AV.ip (acells a1)) 1)) fun v60 =>
 bnd (lft (loadA T 25 v60)) fun v61 =>
 bnd (lft (lenA T 25 v61)) fun v62 =>
 bnd (lft (binA T .sub 3 v62 (AV.int .i64 1))) fun v63 =>
 fx (L51_0 call fx) [a0, AV.ip (acells a1), AV.ip (acells a2), v63, AV.int .i64 0, AV.int .i64 0, AV.sl [], AV.sl []]) (bnd (lft (binA T .eql 3 v37 (AV.int .i64 13))) fun v82 =>
 condM v82 (bnd (lft (loadA T 101 (AV.ip (acells a1)))) fun v83 =>
 bnd (lft (loadA T 28 (AV.ip (acells a2)))) fun v84 =>
 bnd (call 84 [a0, v83, v84]) fun v85 =>
 bnd (cellsNil 4 [] v85) fun v86 =>
 M.pure (AV.agg [nth (acells v86) 0, nth (acells v86) 1, nth (acells v86) 2, nth (acells v86) 3])) (bnd (lft (binA T .eql 3 v37 (AV.int .i64 15))) fun v87 =>
 condM v87 (bnd (lft (loadA T 101 (AV.ip (acells a1)))) fun v88 =>
 bnd (lft (loadA T 28 (AV.ip (acells a2)))) fun v89 =>
 bnd (call 85 [a0, v88, v89]) fun v90 =>
 bnd (cellsNil 4 [] v90) fun v91 =>
 M.pure (AV.agg [nth (acells v91) 0, nth (acells v91) 1, nth (acells v91) 2, nth (acells v91) 3])) (bnd (lft (binA T .eql 3 v37 (AV.int .i64 16))) fun v92 =>
 condM v92 (bnd (lft (loadA T 101 (AV.ip (acells a1)))) fun v93 =>
 bnd (lft (loadA T 28 (AV.ip (acells a2)))) fun v94 =>
 bnd (call 86 [a0, v93, v94]) fun v95 =>
 bnd (cellsNil 4 [] v95) fun v96 =>
 M.pure (AV.agg [nth (acells v96) 0, nth (acells v96) 1, nth (acells v96) 2, nth (acells v96) 3])) (jn (K51_0 call fx) fun v125 =>
 bnd (lft (binA T .eql 3 v37 (AV.int .i64 17))) fun v126 =>
 condM v126 (v125 [a0, AV.ip (acells a1), AV.ip (acells a2), v37, v126, AV.int .i64 0, AV.int .i64 0, AV.sl [], AV.sl []]) (bnd (lft (binA T .eql 3 v37 (AV.int .i64 18))) fun v127 =>
 v125 [a0, AV.ip (acells a1), AV.ip (acells a2), v37, v127, AV.int .i64 0, AV.int .i64 0, AV.sl [], AV.sl []]))))))))))
theorem E51 (call : CC) (fx : Fix AV) (a0 a1 a2 : AV) : evBody (pg.cx call Try.f51.ntmps ann51) fx Try.f51 (own 51) [a0, a1, a2] = S51 call fx a0 a1 a2 := by kernel_rfl
theorem C51 (a0 a1 a2 : AV) : callW pg 51 [a0, a1, a2] = S51 (callW pg) fixW a0 a1 a2 := (callW_heap hOther rfl rfl rfl _).trans (E51 _ _ a0 a1 a2)
noncomputable def S52 (call : CC) (_fx : Fix AV) (a0 a1 : AV) : M AV :=
 bnd (lft (loadA T 3 (AV.ip (acells a1)))) fun v0 =>
 bnd (lft (binA T .eql 3 v0 (AV.int .i64 0))) fun v1 =>
 condM v1 (M.pure (AV.bool false)) (bnd (lft (fieldAddrA T 39 (AV.ip (acells a0)) 0)) fun v2 =>
 bnd (lft (loadA T 3 v2)) fun v3 =>
 bnd (lft (binA T .eql 3 v3 (AV.int .i64 0))) fun v4 =>
 bnd (guardM v4 false 1 (bnd (lft (fieldAddrA T 39 (AV.ip (acells a0)) 0)) fun v5 =>
 bnd (lft (loadA T 3 v5)) fun v6 =>
 bnd (lft (binA T .eql 3 v6 (AV.int .i64 1))) fun v7 =>
 M.pure [v7])) fun v8 =>
 bnd (lft (pickA v4 (AV.bool true) (nth v8 0))) fun v9 =>
 condM v9 (bnd (lft (fieldAddrA T 39 (AV.ip (acells a0)) 2)) fun v10 =>
 bnd (lft (loadA T 25 v10)) fun v11 =>
 bnd (lft (lenA T 25 v11)) fun v12 =>
 bnd (lft (binA T .eql 3 v12 (AV.int .i64 0))) fun v13 =>
 bnd (guardM v13 true 1 (bnd (lft (fieldAddrA T 39 (AV.ip (acells a0)) 3)) fun v14 =>
 bnd (lft (loadA T 23 v14)) fun v15 =>
 bnd (lft (lenA T 23 v15)) fun v16 =>
 bnd (lft (binA T .eql 3 v16 (AV.int .i64 0))) fun v17 =>
 M.pure [v17])) fun v18 =>
 bnd (lft (pickA v13 (nth v18 0) (AV.bool false))) fun v19 =>
 bnd (guardM v19 true 1 (bnd (lft (fieldAddrA T 39 (AV.ip (acells a0)) 0)) fun v20 =>
 bnd (lft (loadA T 3 v20)) fun v21 =>
 bnd (lft (binA T .eql 3 v21 (AV.int .i64 0))) fun v22 =>
 M.pure [v22])) fun v23 =>
 bnd (guardM (nth v23 0) false 1 (bnd (lft (fieldAddrA T 39 (AV.ip (acells a0)) 1)) fun v24 =>
 bnd (lft (loadA T 3 v24)) fun v25 =>
 bnd (lft (binA T .eql 3 v25 (AV.int .i64 0))) fun v26 =>
 M.pure [v26])) fun v27 =>
 bnd (guardM v19 true 1 (bnd (lft (pickA (nth v23 0) (AV.bool true) (nth v27 0))) fun v28 =>
 M.pure [v28])) fun v29 =>
 bnd (guardM (nth v29 0) false 1 (bnd (lft (fieldAddrA T 39 (AV.ip (acells a0)) 1)) fun v30 =>
 bnd (lft (loadA T 3 v30)) fun v31 =>
 bnd (lft (binA T .eql 3 v31 (AV.int .i64 1))) fun v32 =>
 M.pure [v32])) fun v33 =>
 bnd (guardM v19 true 1 (bnd (lft (pickA (nth v29 0) (AV.bool true) (nth v33 0))) fun v34 =>
 M.pure [v34])) fun v35 =>
 bnd (lft (pickA v19 (nth v35 0) (AV.bool false))) fun v36 =>
 M.pure v36) (bnd (lft (fieldAddrA T 39 (AV.ip (acells a0)) 0)) fun v37 =>
 bnd (lft (loadA T 3 v37)) fun v38 =>
 bnd (lft (binA T .neq 3 v38 (AV.int .i64 2))) fun v39 =>
 bnd (guardM v39 false 1 (bnd (lft (fieldAddrA T 39 (AV.ip (acells a0)) 1)) fun v40 =>
 bnd (lft (loadA T 3 v40)) fun v41 =>
 bnd (lft (binA T .neq 3 v41 (AV.int .i64 0))) fun v42 =>
 M.pure [v42])) fun v43 =>
 bnd (lft (pickA v39 (AV.bool true) (nth v43 0))) fun v44 =>
 bnd (guardM v44 false 1 (bnd (lft (fieldAddrA T 39 (AV.ip (acells a0)) 2)) fun v45 =>
 bnd (lft (loadA T 25 v45)) fun v46 =>
 bnd (lft (lenA T 25 v46)) fun v47 =>
 bnd (lft (fieldAddrA T 39 (AV.ip (acells a0)) 3)) fun v48 =>
 bnd (lft (loadA T 23 v48)) fun v49 =>
 bnd (lft (lenA T 23 v49)) fun v50 =>
 bnd (lft (binA T .neq 3 v47 v50)) fun v51 =>
 M.pure [v51])) fun v52 =>
 bnd (lft (pickA v44 (AV.bool true) (nth v52 0))) fun v53 =>
 bnd (guardM v53 false 1 (bnd (lft (fieldAddrA T 39 (AV.ip (acells a0)) 2)) fun v54 =>
 bnd (lft (loadA T 25 v54)) fun v55 =>
 bnd (lft (lenA T 25 v55)) fun v56 =>
 bnd (lft (binA T .gtr 3 v56 (AV.int .i64 8))) fun v57 =>
 M.pure [v57])) fun v58 =>
 bnd (lft (pickA v53 (AV.bool true) (nth v58 0))) fun v59 =>
 bnd (guardM v59 false 1 (bnd (lft (fieldAddrA T 39 (AV.ip (acells a0)) 2)) fun v60 =>
 bnd (lft (loadA T 25 v60)) fun v61 =>
 bnd (call 89 [v61]) fun v62 =>
 bnd (lft (unA UnOp.not v62)) fun v63 =>
 M.pure [v63])) fun v64 =>
 bnd (lft (pickA v59 (AV.bool true) (nth v64 0))) fun v65 =>
 condM v65 (M.pure (AV.bool false)) (bnd (lft (fieldAddrA T 39 (AV.ip (acells a0)) 3)) fun v66 =>
 bnd (lft (loadA T 23 v66)) fun v67 =>
 bnd (call 37 [v67, AV.fn (Fn.func 90) [] [AV.ip (acells a1)]]) fun v68 =>
 bnd (lft (unA UnOp.not v68)) fun v69 =>
 M.pure v69)))
theorem E52 (call : CC) (fx : Fix AV) (a0 a1 : AV) : evBody (pg.cx call Try.f52.ntmps ann52) fx Try.f52 (own 52) [a0, a1] = S52 call fx a0 a1 := by kernel_rfl
theorem C52 (a0 a1 : AV) : callW pg 52 [a0, a1] = isoP (S52 (callW pg) fixW (cl noHs a0) (cl noHs a1)) := (callW_iso hOther rfl rfl rfl _).trans (congrArg isoP (E52 _ _ (cl noHs a0) (cl noHs a1)))
noncomputable def S59 (_call : CC) (_fx : Fix AV) (a0 a1 : AV) : M AV :=
 bnd (lft (fieldAddrA T 63 (AV.ip (acells a0)) 0)) fun v0 =>
 bnd (lft (loadA T 9 v0)) fun v1 =>
 bnd (lft (fieldAddrA T 63 a1 0)) fun v2 =>
 bnd (lft (loadA T 9 v2)) fun v3 =>
 bnd (lft (binA T .eql 9 v1 v3)) fun v4 =>
 M.pure v4
theorem E59 (call : CC) (fx : Fix AV) (a0 a1 : AV) : evBody (pg.cx call Try.f59.ntmps ann59) fx Try.f59 (own 59) [a0, a1] = S59 call fx a0 a1 := by kernel_rfl
theorem C59 (a0 a1 : AV) : callW pg 59 [a0, a1] = isoP (S59 (callW pg) fixW (cl noHs a0) (cl noHs a1)) := (callW_iso hOther rfl rfl rfl _).trans (congrArg isoP (E59 _ _ (cl noHs a0) (cl noHs a1)))
noncomputable def L60_0 (call : CC) (_fx : Fix AV) (v4 : List AV → M AV) (v5 : List AV) : M AV :=
 bnd (lft (binA T .lss 3 (nth v5 4) (nth v5 3))) fun v6 =>
 condM v6 (bnd (lft (indexAddrA T 22 (nth v5 2) (nth v5 4))) fun v7 =>
 bnd (lft (loadA T 63 v7)) fun v8 =>
 bnd (cellsM 9 v8) fun v9 =>
 bnd (lft (indexAddrA T 32 (nth v5 0) (nth v5 4))) fun v10 =>
 bnd (lft (loadA T 47 v10)) fun v11 =>
 bnd (cellsM 2 v11) fun v12 =>
 bnd (lft (loadA T 63 (AV.ip (acells v9)))) fun v13 =>
 bnd (lft (loadA T 47 (AV.ip (acells v12)))) fun v14 =>
 bnd (callV call (nth v5 1) [v13, v14]) fun v15 =>
 bnd (lft (unA UnOp.not v15)) fun v16 =>
 condM v16 (M.pure (AV.bool false)) (bnd (lft (binA T .add 3 (nth v5 4) (AV.int .i64 1))) fun v17 =>
 v4 [nth v5 0, nth v5 1, nth v5 2, nth v5 3, v17])) (M.pure (AV.bool true))
theorem XL60_0 {call : CC} : Cont1 (L60_0 call fixW ) fun _n => L60_0 call fixW  := by
 intro v4 v4s hself v5
 unfold L60_0
 exact (lb fun _ => (condM_lim (lb fun _ => (lb fun _ => (lb fun _ => (lb fun _ => (lb fun _ => (lb fun _ => (lb fun _ => (lb fun _ => (lb fun _ => (lb fun _ => (condM_lim (LimM.const _) (lb fun _ => (hself _))))))))))))) (LimM.const _)))
theorem FL60_0 (call : CC) (vs : List AV) : fixW (L60_0 call fixW ) vs = L60_0 call fixW  (fixW (L60_0 call fixW )) vs := fixW_eq (XL60_0 ) vs
noncomputable def S60 (call : CC) (fx : Fix AV) (a0 a1 a2 : AV) : M AV :=
 bnd (lft (lenA T 22 a0)) fun v0 =>
 bnd (lft (lenA T 32 a1)) fun v1 =>
 bnd (lft (binA T .neq 3 v0 v1)) fun v2 =>
 condM v2 (M.pure (AV.bool false)) (bnd (lft (lenA T 22 a0)) fun v3 =>
 fx (L60_0 call fx) [a1, a2, a0, v3, AV.int .i64 0])
theorem E60 (call : CC) (fx : Fix AV) (a0 a1 a2 : AV) : evBody (pg.cx call Try.f60.ntmps ann60) fx Try.f60 (own 60) [a0, a1, a2] = S60 call fx a0 a1 a2 := by kernel_rfl
theorem C60 (a0 a1 a2 : AV) : callW pg 60 [a0, a1, a2] = isoP (S60 (callW pg) fixW (cl noHs a0) (cl noHs a1) (cl noHs a2)) := (callW_iso hOther rfl rfl rfl _).trans (congrArg isoP (E60 _ _ (cl noHs a0) (cl noHs a1) (cl noHs a2)))
noncomputable def S64 (_call : CC) (_fx : Fix AV) (a0 a1 : AV) : M AV :=
 bnd (lft (fieldAddrA T 63 (AV.ip (acells a0)) 0)) fun v0 =>
 bnd (lft (loadA T 9 v0)) fun v1 =>
 bnd (lft (loadA T 9 a1)) fun v2 =>
 bnd (lft (binA T .eql 9 v1 v2)) fun v3 =>
 M.pure v3
theorem E64 (call : CC) (fx : Fix AV) (a0 a1 : AV) : evBody (pg.cx call Try.f64.ntmps ann64) fx Try.f64 (own 64) [a0, a1] = S64 call fx a0 a1 := by kernel_rfl
theorem C64 (a0 a1 : AV) : callW pg 64 [a0, a1] = isoP (S64 (callW pg) fixW (cl noHs a0) (cl noHs a1)) := (callW_iso hOther rfl rfl rfl _).trans (congrArg isoP (E64 _ _ (cl noHs a0) (cl noHs a1)))
noncomputable def L67_0 (call : CC) (_fx : Fix AV) (v1 : List AV → M AV) (v2 : List AV) : M AV :=
 bnd (lft (binA T .lss 3 (nth v2 3) (nth v2 2))) fun v3 =>
 condM v3 (bnd (lft (indexAddrA T 23 (nth v2 0) (nth v2 3))) fun v4 =>
 bnd (lft (loadA T 39 v4)) fun v5 =>
 bnd (callV call (nth v2 1) [v5]) fun v6 =>
 condM v6 (M.pure (nth v2 3)) (bnd (lft (binA T .add 3 (nth v2 3) (AV.int .i64 1))) fun v7 =>
 v1 [nth v2 0, nth v2 1, nth v2 2, v7])) (M.pure (AV.int .i64 (-1)))
theorem XL67_0 {call : CC} : Cont1 (L67_0 call fixW ) fun _n => L67_0 call fixW  := by
 intro v1 v1s hself v2
 unfold L67_0
 exact (lb fun _ => (condM_lim (lb fun _ => (lb fun _ => (lb fun _ => (condM_lim (LimM.const _) (lb fun _ => (hself _)))))) (LimM.const _)))
theorem FL67_0 (call : CC) (vs : List AV) : fixW (L67_0 call fixW ) vs = L67_0 call fixW  (fixW (L67_0 call fixW )) vs := fixW_eq (XL67_0 ) vs
noncomputable def S67 (call : CC) (fx : Fix AV) (a0 a1 : AV) : M AV :=
 bnd (lft (lenA T 23 a0)) fun v0 =>
 fx (L67_0 call fx) [a0, a1, v0, AV.int .i64 0]
theorem E67 (call : CC) (fx : Fix AV) (a0 a1 : AV) : evBody (pg.cx call Try.f67.ntmps ann67) fx Try.f67 (own 67) [a0, a1] = S67 call fx a0 a1 := by kernel_rfl
theorem C67 (a0 a1 : AV) : callW pg 67 [a0, a1] = isoP (S67 (callW pg) fixW (cl noHs a0) (cl noHs a1)) := (callW_iso hOther rfl rfl rfl _).trans (congrArg isoP (E67 _ _ (cl noHs a0) (cl noHs a1)))
noncomputable def S72 (_call : CC) (_fx : Fix AV) (a0 a1 a2 : AV) : M AV :=
 bnd (cellsM 3 a0) fun v0 =>
 bnd (lft (buildSliceA T 25 0 [])) fun v1 =>
 bnd (lft (appA T 25 v1 (nth (acells v0) 1))) fun v2 =>
 bnd (lft (buildSliceA T 25 1 [(0, a1)])) fun v3 =>
 bnd (lft (appA T 25 v2 v3)) fun v4 =>
 bnd (cell1M v4) fun _v5 =>
 bnd (lft (buildSliceA T 23 0 [])) fun v6 =>
 bnd (lft (appA T 23 v6 (nth (acells v0) 2))) fun v7 =>
 bnd (lft (loadA T 39 (AV.ip (acells a2)))) fun v8 =>
 bnd (lft (buildSliceA T 23 1 [(0, v8)])) fun v9 =>
 bnd (lft (appA T 23 v7 v9)) fun v10 =>
 bnd (cell1M v10) fun _v11 =>
 bnd (cellsNil 3 [] (AV.agg [nth (acells v0) 0, v4, v10])) fun v12 =>
 M.pure (AV.agg [nth (acells v12) 0, nth (acells v12) 1, nth (acells v12) 2])
theorem E72 (call : CC) (fx : Fix AV) (a0 a1 a2 : AV) : evBody (pg.cx call Try.f72.ntmps ann72) fx Try.f72 (own 72) [a0, a1, a2] = S72 call fx a0 a1 a2 := by kernel_rfl
theorem C72 (a0 a1 a2 : AV) : callW pg 72 [a0, a1, a2] = isoP (S72 (callW pg) fixW (cl noHs a0) (cl noHs a1) (cl noHs a2)) := (callW_iso hOther rfl rfl rfl _).trans (congrArg isoP (E72 _ _ (cl noHs a0) (cl noHs a1) (cl noHs a2)))
noncomputable def K73_0 (_call : CC) (_fx : Fix AV) (v4 : List AV) : M AV :=
 condM (nth v4 0) (M.pure (AV.int .i64 (-1))) (M.pure (AV.int .i64 (-2)))
noncomputable def K73_1 (call : CC) (fx : Fix AV) (v2 : List AV) : M AV :=
 condM (nth v2 1) (M.pure (AV.int .i64 2)) (bnd (lft (binA T .eql 3 (nth v2 0) (AV.int .i64 11))) fun v3 =>
 condM v3 (M.pure (AV.int .i64 3)) (jn (K73_0 call fx) fun v5 =>
 bnd (lft (binA T .eql 3 (nth v2 0) (AV.int .i64 13))) fun v6 =>
 condM v6 (v5 [v6]) (bnd (lft (binA T .eql 3 (nth v2 0) (AV.int .i64 15))) fun v7 =>
 v5 [v7])))
noncomputable def K73_2 (call : CC) (fx : Fix AV) (v1 : List AV) : M AV :=
 condM (nth v1 1) (M.pure (AV.int .i64 1)) (jn (K73_1 call fx) fun v8 =>
 bnd (lft (binA T .eql 3 (nth v1 0) (AV.int .i64 3))) fun v9 =>
 condM v9 (v8 [nth v1 0, v9]) (bnd (lft (binA T .eql 3 (nth v1 0) (AV.int .i64 4))) fun v10 =>
 condM v10 (v8 [nth v1 0, v10]) (bnd (lft (binA T .eql 3 (nth v1 0) (AV.int .i64 5))) fun v11 =>
 condM v11 (v8 [nth v1 0, v11]) (bnd (lft (binA T .eql 3 (nth v1 0) (AV.int .i64 6))) fun v12 =>
 condM v12 (v8 [nth v1 0, v12]) (bnd (lft (binA T .eql 3 (nth v1 0) (AV.int .i64 7))) fun v13 =>
 condM v13 (v8 [nth v1 0, v13]) (bnd (lft (binA T .eql 3 (nth v1 0) (AV.int .i64 8))) fun v14 =>
 condM v14 (v8 [nth v1 0, v14]) (bnd (lft (binA T .eql 3 (nth v1 0) (AV.int .i64 9))) fun v15 =>
 condM v15 (v8 [nth v1 0, v15]) (bnd (lft (binA T .eql 3 (nth v1 0) (AV.int .i64 12))) fun v16 =>
 v8 [nth v1 0, v16]))))))))
noncomputable def K73_3 (call : CC) (fx : Fix AV) (v0 : List AV) : M AV :=
 condM (nth v0 1) (M.pure (AV.int .i64 0)) (jn (K73_2 call fx) fun v17 =>
 bnd (lft (binA T .eql 3 (nth v0 0) (AV.int .i64 10))) fun v18 =>
 condM v18 (v17 [nth v0 0, v18]) (bnd (lft (binA T .eql 3 (nth v0 0) (AV.int .i64 14))) fun v19 =>
 condM v19 (v17 [nth v0 0, v19]) (bnd (lft (binA T .eql 3 (nth v0 0) (AV.int .i64 16))) fun v20 =>
 condM v20 (v17 [nth v0 0, v20]) (bnd (lft (binA T .eql 3 (nth v0 0) (AV.int .i64 18))) fun v21 =>
 v17 [nth v0 0, v21]))))
noncomputable def S73 (call : CC) (fx : Fix AV) (a0 : AV) : M AV :=
 jn (K73_3 call fx) fun v22 =>
 bnd (lft (binA T .eql 3 a0 (AV.int .i64 0))) fun v23 =>
 condM v23 (v22 [a0, v23]) (bnd (lft (binA T .eql 3 a0 (AV.int .i64 1))) fun v24 =>
 condM v24 (v22 [a0, v24]) (bnd (lft (binA T .eql 3 a0 (AV.int .i64 2))) fun v25 =>
 condM v25 (v22 [a0, v25]) (bnd (lft (binA T .eql 3 a0 (AV.int .i64 17))) fun v26 =>
 v22 [a0, v26])))
theorem E73 (call : CC) (fx : Fix AV) (a0 : AV) : evBody (pg.cx call Try.f73.ntmps ann73) fx Try.f73 (own 73) [a0] = S73 call fx a0 := by kernel_rfl
theorem C73 (a0 : AV) : callW pg 73 [a0] = isoP (S73 (callW pg) fixW (cl noHs a0)) := (callW_iso hOther rfl rfl rfl _).trans (congrArg isoP (E73 _ _ (cl noHs a0)))
noncomputable def L78_0 (call : CC) (_fx : Fix AV) (v26 : List AV → M AV) (v27 : List AV) : M AV :=
 bnd (lft (binA T .lss 3 (nth v27 4) (nth v27 3))) fun v28 =>
 condM v28 (bnd (lft (indexAddrA T 26 (nth v27 2) (nth v27 4))) fun v29 =>
 bnd (lft (loadA T 28 v29)) fun v30 =>
 bnd (cellsM 6 v30) fun v31 =>
 bnd (lft (loadA T 98 (nth v27 1))) fun v32 =>
 bnd (lft (loadA T 28 (AV.ip (acells v31)))) fun v33 =>
 bnd (call 50 [nth v27 0, v32, v33]) fun v34 =>
 bnd (lft (buildSliceA T 23 1 [(0, v34)])) fun v35 =>
 bnd (lft (appA T 23 (nth v27 12) v35)) fun v36 =>
 bnd (cell1M v36) fun _v37 =>
 bnd (lft (binA T .add 3 (nth v27 4) (AV.int .i64 1))) fun v38 =>
 v26 [nth v27 0, nth v27 1, nth v27 2, nth v27 3, v38, nth v27 5, nth v27 6, nth v27 7, nth v27 8, nth v27 9, nth v27 10, nth v27 11, v36]) (bnd (call 97 [AV.agg [nth v27 9, nth v27 10, nth v27 11, nth v27 12]]) fun v39 =>
 bnd (lft (binA T .leq 3 v39 (AV.int .i64 4))) fun v40 =>
 bnd (call 69 [v40, AV.int .i64 6]) fun _v41 =>
 bnd (cellsNil 4 [] (AV.agg [nth v27 9, nth v27 10, nth v27 11, nth v27 12])) fun v42 =>
 M.pure (AV.agg [nth (acells v42) 0, nth (acells v42) 1, nth (acells v42) 2, nth (acells v42) 3]))
theorem XL78_0 {call : CC} : Cont1 (L78_0 call fixW ) fun _n => L78_0 call fixW  := by
 intro v26 v26s hself v27
 unfold L78_0
 exact (lb fun _ => (condM_lim (lb fun _ => (lb fun _ => (lb fun _ => (lb fun _ => (lb fun _ => (lb fun _ => (lb fun _ => (lb fun _ => (lb fun _ => (lb fun _ => (hself _))))))))))) (LimM.const _)))
theorem FL78_0 (call : CC) (vs : List AV) : fixW (L78_0 call fixW ) vs = L78_0 call fixW  (fixW (L78_0 call fixW )) vs := fixW_eq (XL78_0 ) vs
noncomputable def S78 (call : CC) (fx : Fix AV) (a0 a1 a2 : AV) : M AV :=
 bnd (lft (fieldAddrA T 28 (AV.ip (acells a2)) 4)) fun v0 =>
 bnd (lft (loadA T 25 v0)) fun v1 =>
 bnd (lft (lenA T 25 v1)) fun v2 =>
 bnd (lft (fieldAddrA T 28 (AV.ip (acells a2)) 5)) fun v3 =>
 bnd (lft (loadA T 26 v3)) fun v4 =>
 bnd (lft (lenA T 26 v4)) fun v5 =>
 bnd (lft (binA T .eql 3 v2 v5)) fun v6 =>
 bnd (guardM v6 true 1 (bnd (lft (fieldAddrA T 28 (AV.ip (acells a2)) 4)) fun v7 =>
 bnd (lft (loadA T 25 v7)) fun v8 =>
 bnd (call 89 [v8]) fun v9 =>
 M.pure [v9])) fun v10 =>
 bnd (lft (pickA v6 (nth v10 0) (AV.bool false))) fun v11 =>
 bnd (call 69 [v11, AV.int .i64 13]) fun _v12 =>
 bnd (lft (fieldAddrA T 28 (AV.ip (acells a2)) 4)) fun v13 =>
 bnd (lft (loadA T 25 v13)) fun v14 =>
 bnd (lft (lenA T 25 v14)) fun v15 =>
 bnd (lft (binA T .leq 3 v15 (AV.int .i64 8))) fun v16 =>
 bnd (call 69 [v16, AV.int .i64 6]) fun _v17 =>
 bnd (lft (fieldAddrA T 28 (AV.ip (acells a2)) 4)) fun v18 =>
 bnd (lft (loadA T 25 v18)) fun v19 =>
 bnd (call 96 [v19]) fun v20 =>
 bnd (lft (buildA T true 39 [(0, AV.int .i64 2), (2, v20)])) fun v21 =>
 bnd (cellsNil 4 [3] v21) fun v22 =>
 bnd (lft (fieldAddrA T 28 (AV.ip (acells a2)) 5)) fun v23 =>
 bnd (lft (loadA T 26 v23)) fun v24 =>
 bnd (lft (lenA T 26 v24)) fun v25 =>
 fx (L78_0 call fx) [a0, AV.ip (acells a1), v24, v25, AV.int .i64 0, AV.int .i64 0, AV.int .i64 0, AV.sl [], AV.sl [], nth (acells v22) 0, nth (acells v22) 1, nth (acells v22) 2, AV.sl []]
theorem E78 (call : CC) (fx : Fix AV) (a0 a1 a2 : AV) : evBody (pg.cx call Try.f78.ntmps ann78) fx Try.f78 (own 78) [a0, a1, a2] = S78 call fx a0 a1 a2 := by kernel_rfl
theorem C78 (a0 a1 a2 : AV) : callW pg 78 [a0, a1, a2] = S78 (callW pg) fixW a0 a1 a2 := (callW_heap hOther rfl rfl rfl _).trans (E78 _ _ a0 a1 a2)
noncomputable def L79_0 (_call : CC) (_fx : Fix AV) (v1 : List AV → M AV) (v2 : List AV) : M AV :=
 bnd (lft (binA T .lss 3 (nth v2 3) (nth v2 2))) fun v3 =>
 condM v3 (bnd (lft (indexAddrA T 25 (nth v2 0) (nth v2 3))) fun v4 =>
 bnd (lft (loadA T 9 v4)) fun v5 =>
 bnd (lft (binA T .eql 9 (nth v2 1) v5)) fun v6 =>
 condM v6 (M.pure (nth v2 3)) (bnd (lft (binA T .add 3 (nth v2 3) (AV.int .i64 1))) fun v7 =>
 v1 [nth v2 0, nth v2 1, nth v2 2, v7])) (M.pure (AV.int .i64 (-1)))
theorem XL79_0 {call : CC} : Cont1 (L79_0 call fixW ) fun _n => L79_0 call fixW  := by
 intro v1 v1s hself v2
 unfold L79_0
 exact (lb fun _ => (condM_lim (lb fun _ => (lb fun _ => (lb fun _ => (condM_lim (LimM.const _) (lb fun _ => (hself _)))))) (LimM.const _)))
theorem FL79_0 (call : CC) (vs : List AV) : fixW (L79_0 call fixW ) vs = L79_0 call fixW  (fixW (L79_0 call fixW )) vs := fixW_eq (XL79_0 ) vs
noncomputable def S79 (call : CC) (fx : Fix AV) (a0 a1 : AV) : M AV :=
 bnd (lft (lenA T 25 a0)) fun v0 =>
 fx (L79_0 call fx) [a0, a1, v0, AV.int .i64 0]
theorem E79 (call : CC) (fx : Fix AV) (a0 a1 : AV) : evBody (pg.cx call Try.f79.ntmps ann79) fx Try.f79 (own 79) [a0, a1] = S79 call fx a0 a1 := by kernel_rfl
theorem C79 (a0 a1 : AV) : callW pg 79 [a0, a1] = isoP (S79 (callW pg) fixW (cl noHs a0) (cl noHs a1)) := (callW_iso hOther rfl rfl rfl _).trans (congrArg isoP (E79 _ _ (cl noHs a0) (cl noHs a1)))
noncomputable def L80_0 (call : CC) (_fx : Fix AV) (v31 : List AV → M AV) (v32 : List AV) : M AV :=
 bnd (lft (binA T .lss 3 (nth v32 7) (nth v32 6))) fun v33 =>
 condM v33 (bnd (lft (indexAddrA T 26 (nth v32 5) (nth v32 7))) fun v34 =>
 bnd (lft (loadA T 28 v34)) fun v35 =>
 bnd (cellsM 6 v35) fun v36 =>
 bnd (lft (loadA T 98 (nth v32 1))) fun v37 =>
 bnd (lft (loadA T 28 (AV.ip (acells v36)))) fun v38 =>
 bnd (call 50 [nth v32 0, v37, v38]) fun v39 =>
 bnd (lft (buildSliceA T 23 1 [(0, v39)])) fun v40 =>
 bnd (lft (appA T 23 (nth v32 4) v40)) fun v41 =>
 bnd (lft (binA T .add 3 (nth v32 7) (AV.int .i64 1))) fun v42 =>
 v31 [nth v32 0, nth v32 1, nth v32 2, nth v32 3, v41, nth v32 5, nth v32 6, v42, nth v32 8, nth v32 9, nth v32 10, nth v32 11]) (bnd (lft (loadA T 67 (nth v32 3))) fun v43 =>
 bnd (call 42 [nth v32 0, nth v32 2, v43, nth v32 4]) fun v44 =>
 bnd (cellsNil 4 [] v44) fun v45 =>
 M.pure (AV.agg [nth (acells v45) 0, nth (acells v45) 1, nth (acells v45) 2, nth (acells v45) 3]))
noncomputable def K80_0 (call : CC) (fx : Fix AV) (v2 : List AV) : M AV :=
 bnd (lft (fieldAddrA T 28 (nth v2 2) 2)) fun v3 =>
 bnd (lft (loadA T 9 v3)) fun v4 =>
 bnd (call 36 [nth v2 0, nth v2 3, v4]) fun v5 =>
 bnd (lft (extractA v5 0)) fun v6 =>
 bnd (lft (extractA v5 1)) fun v7 =>
 bnd (cellsM 12 v6) fun v8 =>
 bnd (guardM v7 true 1 (bnd (lft (fieldAddrA T 28 (nth v2 2) 3)) fun v9 =>
 bnd (lft (loadA T 9 v9)) fun v10 =>
 bnd (lft (binA T .eql 9 v10 (AV.str []))) fun v11 =>
 M.pure [v11])) fun v12 =>
 bnd (guardM (nth v12 0) false 1 (bnd (lft (fieldAddrA T 67 (AV.ip (acells v8)) 1)) fun v13 =>
 bnd (lft (loadA T 4 v13)) fun v14 =>
 M.pure [v14])) fun v15 =>
 bnd (guardM v7 true 1 (bnd (lft (pickA (nth v12 0) (AV.bool true) (nth v15 0))) fun v16 =>
 M.pure [v16])) fun v17 =>
 bnd (lft (pickA v7 (nth v17 0) (AV.bool false))) fun v18 =>
 bnd (call 69 [v18, AV.int .i64 12]) fun _v19 =>
 bnd (lft (fieldAddrA T 28 (nth v2 2) 5)) fun v20 =>
 bnd (lft (loadA T 26 v20)) fun v21 =>
 bnd (lft (lenA T 26 v21)) fun v22 =>
 bnd (lft (fieldAddrA T 67 (AV.ip (acells v8)) 2)) fun v23 =>
 bnd (lft (loadA T 58 v23)) fun v24 =>
 bnd (lft (lenA T 58 v24)) fun v25 =>
 bnd (lft (binA T .eql 3 v22 v25)) fun v26 =>
 bnd (call 69 [v26, AV.int .i64 13]) fun _v27 =>
 bnd (lft (fieldAddrA T 28 (nth v2 2) 5)) fun v28 =>
 bnd (lft (loadA T 26 v28)) fun v29 =>
 bnd (lft (lenA T 26 v29)) fun v30 =>
 fx (L80_0 call fx) [nth v2 0, nth v2 1, nth v2 3, AV.ip (acells v8), AV.sl [], v29, v30, AV.int .i64 0, nth v2 4, nth v2 5, nth v2 6, nth v2 7]
theorem XL80_0 {call : CC} : Cont1 (L80_0 call fixW ) fun _n => L80_0 call fixW  := by
 intro v31 v31s hself v32
 unfold L80_0
 exact (lb fun _ => (condM_lim (lb fun _ => (lb fun _ => (lb fun _ => (lb fun _ => (lb fun _ => (lb fun _ => (lb fun _ => (lb fun _ => (lb fun _ => (hself _)))))))))) (LimM.const _)))
theorem FL80_0 (call : CC) (vs : List AV) : fixW (L80_0 call fixW ) vs = L80_0 call fixW  (fixW (L80_0 call fixW )) vs := fixW_eq (XL80_0 ) vs
noncomputable def S80 (call : CC) (fx : Fix AV) (a0 a1 a2 : AV) : M AV :=
 bnd (lft (fieldAddrA T 98 (AV.ip (acells a1)) 0)) fun v0 =>
 bnd (lft (loadA T 3 v0)) fun v1 =>
 jn (K80_0 call fx) fun v46 =>
 bnd (lft (fieldAddrA T 28 (AV.ip (acells a2)) 3)) fun v47 =>
 bnd (lft (loadA T 9 v47)) fun v48 =>
 bnd (lft (binA T .neq 9 v48 (AV.str []))) fun v49 =>
 condM v49 (bnd (lft (fieldAddrA T 28 (AV.ip (acells a2)) 3)) fun v50 =>
 bnd (lft (loadA T 9 v50)) fun v51 =>
 bnd (call 35 [a0, v51]) fun v52 =>
 v46 [a0, AV.ip (acells a1), AV.ip (acells a2), v52, AV.int .i64 0, AV.int .i64 0, AV.sl [], AV.sl []]) (v46 [a0, AV.ip (acells a1), AV.ip (acells a2), v1, AV.int .i64 0, AV.int .i64 0, AV.sl [], AV.sl []])
theorem E80 (call : CC) (fx : Fix AV) (a0 a1 a2 : AV) : evBody (pg.cx call Try.f80.ntmps ann80) fx Try.f80 (own 80) [a0, a1, a2] = S80 call fx a0 a1 a2 := by kernel_rfl
theorem C80 (a0 a1 a2 : AV) : callW pg 80 [a0, a1, a2] = S80 (callW pg) fixW a0 a1 a2 := (callW_heap hOther rfl rfl rfl _).trans (E80 _ _ a0 a1 a2)
noncomputable def L85_0 (call : CC) (_fx : Fix AV) (v40 : List AV → M AV) (v41 : List AV) : M AV :=
 bnd (lft (fieldAddrA T 28 (nth v41 2) 5)) fun v42 =>
 bnd (lft (loadA T 26 v42)) fun v43 =>
 bnd (lft (lenA T 26 v43)) fun v44 =>
 bnd (lft (binA T .lss 3 (nth v41 6) v44)) fun v45 =>
 condM v45 (bnd (lft (loadA T 101 (nth v41 1))) fun v46 =>
 bnd (lft (fieldAddrA T 28 (nth v41 2) 5)) fun v47 =>
 bnd (lft (loadA T 26 v47)) fun v48 =>
 bnd (lft (indexAddrA T 26 v48 (nth v41 6))) fun v49 =>
 bnd (lft (loadA T 28 v49)) fun v50 =>
 bnd (call 51 [nth v41 0, v46, v50]) fun v51 =>
 bnd (lft (buildSliceA T 23 1 [(0, v51)])) fun v52 =>
 bnd (lft (appA T 23 (nth v41 5) v52)) fun v53 =>
 bnd (lft (binA T .add 3 (nth v41 6) (AV.int .i64 1))) fun v54 =>
 v40 [nth v41 0, nth v41 1, nth v41 2, nth v41 3, nth v41 4, v53, v54, nth v41 7, nth v41 8, nth v41 9, nth v41 10]) (bnd (lft (loadA T 67 (nth v41 4))) fun v55 =>
 bnd (call 47 [nth v41 0, nth v41 3, v55, nth v41 5]) fun v56 =>
 bnd (cellsNil 4 [] v56) fun v57 =>
 M.pure (AV.agg [nth (acells v57) 0, nth (acells v57) 1, nth (acells v57) 2, nth (acells v57) 3]))
noncomputable def K85_0 (call : CC) (fx : Fix AV) (v2 : List AV) : M AV :=
 bnd (lft (nilChkA (nth v2 0))) fun v3 =>
 bnd (lft (fieldAddrA T 95 v3 0)) fun v4 =>
 bnd (loadH T 22 v4) fun v5 =>
 bnd (lft (fieldAddrA T 28 (nth v2 2) 2)) fun v6 =>
 bnd (lft (loadA T 9 v6)) fun v7 =>
 bnd (noPan (call 45 [v5, nth v2 3, v7])) fun v8 =>
 bnd (lft (binA T .lss 3 v8 (AV.int .i64 0))) fun v9 =>
 condM v9 (bnd (call 71 [nth v2 0, AV.int .i64 12]) fun v10 =>
 bnd (cellsNil 4 [] v10) fun v11 =>
 M.pure (AV.agg [nth (acells v11) 0, nth (acells v11) 1, nth (acells v11) 2, nth (acells v11) 3])) (bnd (lft (nilChkA (nth v2 0))) fun v12 =>
 bnd (lft (fieldAddrA T 95 v12 0)) fun v13 =>
 bnd (loadH T 22 v13) fun v14 =>
 bnd (lft (indexAddrA T 22 v14 (nth v2 3))) fun v15 =>
 bnd (lft (fieldAddrA T 63 v15 4)) fun v16 =>
 bnd (lft (loadA T 59 v16)) fun v17 =>
 bnd (lft (indexAddrA T 59 v17 v8)) fun v18 =>
 bnd (lft (loadA T 67 v18)) fun v19 =>
 bnd (cellsM 12 v19) fun v20 =>
 bnd (lft (fieldAddrA T 28 (nth v2 2) 3)) fun v21 =>
 bnd (lft (loadA T 9 v21)) fun v22 =>
 bnd (lft (binA T .neq 9 v22 (AV.str []))) fun v23 =>
 bnd (guardM v23 true 1 (bnd (lft (fieldAddrA T 67 (AV.ip (acells v20)) 1)) fun v24 =>
 bnd (lft (loadA T 4 v24)) fun v25 =>
 bnd (lft (unA UnOp.not v25)) fun v26 =>
 M.pure [v26])) fun v27 =>
 bnd (lft (pickA v23 (nth v27 0) (AV.bool false))) fun v28 =>
 condM v28 (bnd (call 71 [nth v2 0, AV.int .i64 12]) fun v29 =>
 bnd (cellsNil 4 [] v29) fun v30 =>
 M.pure (AV.agg [nth (acells v30) 0, nth (acells v30) 1, nth (acells v30) 2, nth (acells v30) 3])) (bnd (lft (fieldAddrA T 67 (AV.ip (acells v20)) 2)) fun v31 =>
 bnd (lft (loadA T 58 v31)) fun v32 =>
 bnd (lft (lenA T 58 v32)) fun v33 =>
 bnd (lft (fieldAddrA T 28 (nth v2 2) 5)) fun v34 =>
 bnd (lft (loadA T 26 v34)) fun v35 =>
 bnd (lft (lenA T 26 v35)) fun v36 =>
 bnd (lft (binA T .neq 3 v33 v36)) fun v37 =>
 condM v37 (bnd (call 71 [nth v2 0, AV.int .i64 13]) fun v38 =>
 bnd (cellsNil 4 [] v38) fun v39 =>
 M.pure (AV.agg [nth (acells v39) 0, nth (acells v39) 1, nth (acells v39) 2, nth (acells v39) 3])) (fx (L85_0 call fx) [nth v2 0, nth v2 1, nth v2 2, nth v2 3, AV.ip (acells v20), AV.sl [], AV.int .i64 0, nth v2 4, nth v2 5, nth v2 6, nth v2 7])))
theorem XL85_0 {call : CC} : Cont1 (L85_0 call fixW ) fun _n => L85_0 call fixW  := by
 intro v40 v40s hself v41
 unfold L85_0
 exact (lb fun _ => (lb fun _ => (lb fun _ => (lb fun _ => (condM_lim (lb fun _ => (lb fun _ => (lb fun _ => (lb fun _ => (lb fun _ => (lb fun _ => (lb fun _ => (lb fun _ => (lb fun _ => (hself _)))))))))) (LimM.const _))))))
theorem FL85_0 (call : CC) (vs : List AV) : fixW (L85_0 call fixW ) vs = L85_0 call fixW  (fixW (L85_0 call fixW )) vs := fixW_eq (XL85_0 ) vs
noncomputable def S85 (call : CC) (fx : Fix AV) (a0 a1 a2 : AV) : M AV :=
 bnd (lft (fieldAddrA T 101 (AV.ip (acells a1)) 0)) fun v0 =>
 bnd (lft (loadA T 3 v0)) fun v1 =>
 jn (K85_0 call fx) fun v58 =>
 bnd (lft (fieldAddrA T 28 (AV.ip (acells a2)) 3)) fun v59 =>
 bnd (lft (loadA T 9 v59)) fun v60 =>
 bnd (lft (binA T .neq 9 v60 (AV.str []))) fun v61 =>
 condM v61 (bnd (lft (nilChkA a0)) fun v62 =>
 bnd (lft (fieldAddrA T 95 v62 0)) fun v63 =>
 bnd (loadH T 22 v63) fun v64 =>
 bnd (lft (fieldAddrA T 28 (AV.ip (acells a2)) 3)) fun v65 =>
 bnd (lft (loadA T 9 v65)) fun v66 =>
 bnd (noPan (call 44 [v64, v66])) fun v67 =>
 v58 [a0, AV.ip (acells a1), AV.ip (acells a2), v67, AV.int .i64 0, AV.int .i64 0, AV.sl [], AV.sl []]) (v58 [a0, AV.ip (acells a1), AV.ip (acells a2), v1, AV.int .i64 0, AV.int .i64 0, AV.sl [], AV.sl []])
theorem E85 (call : CC) (fx : Fix AV) (a0 a1 a2 : AV) : evBody (pg.cx call Try.f85.ntmps ann85) fx Try.f85 (own 85) [a0, a1, a2] = S85 call fx a0 a1 a2 := by kernel_rfl
theorem C85 (a0 a1 a2 : AV) : callW pg 85 [a0, a1, a2] = S85 (callW pg) fixW a0 a1 a2 := (callW_heap hOther rfl rfl rfl _).trans (E85 _ _ a0 a1 a2)
noncomputable def S94 (_call : CC) (_fx : Fix AV) (a0 : AV) : M AV :=
 bnd (lft (lenA T 25 a0)) fun v0 =>
 bnd (lft (lenA T 25 a0)) fun v1 =>
 bnd (lft (sliceA T 25 a0 none (some v0) (some v1))) fun v2 =>
 M.pure v2
theorem E94 (call : CC) (fx : Fix AV) (a0 : AV) : evBody (pg.cx call Try.f94.ntmps ann94) fx Try.f94 (own 94) [a0] = S94 call fx a0 := by kernel_rfl
theorem C94 (a0 : AV) : callW pg 94 [a0] = isoP (S94 (callW pg) fixW (cl noHs a0)) := (callW_iso hOther rfl rfl rfl _).trans (congrArg isoP (E94 _ _ (cl noHs a0)))
noncomputable def L97_0 (call : CC) (_fx : Fix AV) (v3 : List AV → M AV) (v4 : List AV) : M AV :=
 bnd (lft (binA T .lss 3 (nth v4 3) (nth v4 2))) fun v5 =>
 condM v5 (bnd (lft (indexAddrA T 23 (nth v4 1) (nth v4 3))) fun v6 =>
 bnd (lft (loadA T 39 v6)) fun v7 =>
 bnd (cellsM 4 v7) fun v8 =>
 bnd (lft (loadA T 39 (AV.ip (acells v8)))) fun v9 =>
 bnd (call 97 [v9]) fun v10 =>
 bnd (lft (minsA true [nth v4 0, v10])) fun v11 =>
 bnd (lft (binA T .add 3 (nth v4 3) (AV.int .i64 1))) fun v12 =>
 v3 [v11, nth v4 1, nth v4 2, v12]) (bnd (lft (binA T .add 3 (nth v4 0) (AV.int .i64 1))) fun v13 =>
 M.pure v13)
theorem XL97_0 {call : CC} : Cont1 (L97_0 call fixW ) fun _n => L97_0 call fixW  := by
 intro v3 v3s hself v4
 unfold L97_0
 exact (lb fun _ => (condM_lim (lb fun _ => (lb fun _ => (lb fun _ => (lb fun _ => (lb fun _ => (lb fun _ => (lb fun _ => (hself _)))))))) (LimM.const _)))
theorem FL97_0 (call : CC) (vs : List AV) : fixW (L97_0 call fixW ) vs = L97_0 call fixW  (fixW (L97_0 call fixW )) vs := fixW_eq (XL97_0 ) vs
noncomputable def S97 (call : CC) (fx : Fix AV) (a0 : AV) : M AV :=
 bnd (lft (fieldAddrA T 39 (AV.ip (acells a0)) 3)) fun v0 =>
 bnd (lft (loadA T 23 v0)) fun v1 =>
 bnd (lft (lenA T 23 v1)) fun v2 =>
 fx (L97_0 call fx) [AV.int .i64 0, v1, v2, AV.int .i64 0]
theorem E97 (call : CC) (fx : Fix AV) (a0 : AV) : evBody (pg.cx call Try.f97.ntmps ann97) fx Try.f97 (own 97) [a0] = S97 call fx a0 := by kernel_rfl
theorem C97 (a0 : AV) : callW pg 97 [a0] = isoP (S97 (callW pg) fixW (cl noHs a0)) := (callW_iso hOther rfl rfl rfl _).trans (congrArg isoP (E97 _ _ (cl noHs a0)))
end Go.Proofs.Ytgbopmciiadmlaa
