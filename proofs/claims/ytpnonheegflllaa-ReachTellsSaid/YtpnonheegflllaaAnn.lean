/- Annotations of the functions, the table of types, the program of the abstract evaluator: written by a program. No condition. -/
import Derived.Test.YtpnonheegflllaaProg
import Derived.Test.YtpnonheegflllaaLd
namespace Go.Proofs.Ytpnonheegflllaa
open Go Go.Av Go.Av.Ap
abbrev CC := FuncId → List AV → M AV
theorem lb {α β : Type} {m : M α} {f : α → M β} {fs : Nat → α → M β} (hf : LimF f fs) : LimM (bnd m f) fun n => bnd m (fs n) := LimM.bnd (LimM.const _) hf
noncomputable def tab : List (Nat × TI) := [
(0, (TI.mk Bool.false 1 0 TK.other [] [AV.any] Bool.false)),
(1, (TI.mk Bool.false 1 8 TK.func [] [AV.nilf] Bool.false)),
(2, (TI.mk Bool.false 1 8 (TK.int IntKind.i64) [] [AV.int IntKind.i64 0] Bool.false)),
(3, (TI.mk Bool.false 1 8 (TK.int IntKind.i64) [] [AV.int IntKind.i64 0] Bool.false)),
(4, (TI.mk Bool.false 1 1 TK.bool [] [AV.bool Bool.false] Bool.false)),
(5, (TI.mk Bool.false 1 1 (TK.int IntKind.u8) [] [AV.int IntKind.u8 0] Bool.false)),
(6, (TI.mk Bool.false 1 1 (TK.int IntKind.u8) [] [AV.int IntKind.u8 0] Bool.false)),
(7, (TI.mk Bool.true 4 24 TK.struct [(0, ((2, Bool.true))), (1, ((3, Bool.true))), (2, ((4, Bool.true))), (3, ((6, Bool.true)))] [AV.int IntKind.i64 0, AV.int IntKind.i64 0, AV.bool Bool.false, AV.int IntKind.u8 0] Bool.true)),
(8, (TI.mk Bool.true 4 24 TK.struct [(0, ((2, Bool.true))), (1, ((3, Bool.true))), (2, ((4, Bool.true))), (3, ((6, Bool.true)))] [AV.int IntKind.i64 0, AV.int IntKind.i64 0, AV.bool Bool.false, AV.int IntKind.u8 0] Bool.true)),
(9, (TI.mk Bool.false 1 16 TK.str [] [AV.str []] Bool.false)),
(10, (TI.mk Bool.false 1 16 TK.str [] [AV.str []] Bool.false)),
(11, (TI.mk Bool.false 1 16 TK.str [] [AV.str []] Bool.false)),
(12, (TI.mk Bool.false 1 8 (TK.int IntKind.u64) [] [AV.int IntKind.u64 0] Bool.false)),
(13, (TI.mk Bool.true 2 24 TK.struct [(0, ((9, Bool.true))), (1, ((12, Bool.true)))] [AV.str [], AV.int IntKind.u64 0] Bool.false)),
(14, (TI.mk Bool.true 2 24 TK.struct [(0, ((9, Bool.true))), (1, ((12, Bool.true)))] [AV.str [], AV.int IntKind.u64 0] Bool.false)),
(15, (TI.mk Bool.false 1 8 TK.ptr [] [AV.nilp] Bool.false)),
(16, (TI.mk Bool.false 1 8 TK.ptr [] [AV.nilp] Bool.false)),
(17, (TI.mk Bool.false 1 8 TK.ptr [] [AV.nilp] Bool.false)),
(18, (TI.mk Bool.true 1 8 TK.struct [(0, ((17, Bool.true)))] [AV.nilp] Bool.false)),
(19, (TI.mk Bool.true 1 8 TK.struct [(0, ((17, Bool.true)))] [AV.nilp] Bool.false)),
(20, (TI.mk Bool.false 1 16 TK.iface [] [AV.nili] Bool.false)),
(21, (TI.mk Bool.false 1 4 (TK.int IntKind.i32) [] [AV.int IntKind.i32 0] Bool.false)),
(22, (TI.mk Bool.false 1 24 (TK.slice 42) [] [AV.sl []] Bool.false)),
(23, (TI.mk Bool.true 2 32 TK.struct [(0, ((9, Bool.true))), (1, ((9, Bool.true)))] [AV.str [], AV.str []] Bool.true)),
(24, (TI.mk Bool.true 2 32 TK.struct [(0, ((9, Bool.true))), (1, ((9, Bool.true)))] [AV.str [], AV.str []] Bool.true)),
(25, (TI.mk Bool.false 1 8 TK.func [] [AV.nilf] Bool.false)),
(26, (TI.mk Bool.false 1 8 TK.func [] [AV.nilf] Bool.false)),
(27, (TI.mk Bool.false 1 24 (TK.slice 24) [] [AV.sl []] Bool.false)),
(28, (TI.mk Bool.false 1 0 TK.other [] [AV.any] Bool.false)),
(29, (TI.mk Bool.false 1 8 TK.func [] [AV.nilf] Bool.false)),
(30, (TI.mk Bool.false 1 8 TK.func [] [AV.nilf] Bool.false)),
(31, (TI.mk Bool.false 1 8 TK.func [] [AV.nilf] Bool.false)),
(32, (TI.mk Bool.false 1 8 TK.func [] [AV.nilf] Bool.false)),
(33, (TI.mk Bool.false 1 8 TK.func [] [AV.nilf] Bool.false)),
(34, (TI.mk Bool.false 1 8 TK.func [] [AV.nilf] Bool.false)),
(35, (TI.mk Bool.false 1 24 (TK.slice 9) [] [AV.sl []] Bool.false)),
(36, (TI.mk Bool.false 1 24 (TK.slice 78) [] [AV.sl []] Bool.false)),
(37, (TI.mk Bool.false 1 24 (TK.slice 46) [] [AV.sl []] Bool.false)),
(38, (TI.mk Bool.false 1 24 (TK.slice 48) [] [AV.sl []] Bool.false)),
(39, (TI.mk Bool.true 3 72 TK.struct [(0, ((36, Bool.true))), (1, ((37, Bool.true))), (2, ((37, Bool.true)))] [AV.sl [], AV.sl [], AV.sl []] Bool.true)),
(40, (TI.mk Bool.true 3 72 TK.struct [(0, ((36, Bool.true))), (1, ((37, Bool.true))), (2, ((37, Bool.true)))] [AV.sl [], AV.sl [], AV.sl []] Bool.true)),
(41, (TI.mk Bool.true 9 192 TK.struct [(0, ((9, Bool.true))), (1, ((35, Bool.true))), (2, ((36, Bool.true))), (3, ((37, Bool.true))), (4, ((38, Bool.true))), (5, ((4, Bool.true))), (6, ((40, Bool.true)))] [AV.str [], AV.sl [], AV.sl [], AV.sl [], AV.sl [], AV.bool Bool.false, AV.sl [], AV.sl [], AV.sl []] Bool.true)),
(42, (TI.mk Bool.true 9 192 TK.struct [(0, ((9, Bool.true))), (1, ((35, Bool.true))), (2, ((36, Bool.true))), (3, ((37, Bool.true))), (4, ((38, Bool.true))), (5, ((4, Bool.true))), (6, ((40, Bool.true)))] [AV.str [], AV.sl [], AV.sl [], AV.sl [], AV.sl [], AV.bool Bool.false, AV.sl [], AV.sl [], AV.sl []] Bool.true)),
(43, (TI.mk Bool.true 2 32 TK.struct [(0, ((3, Bool.true))), (1, ((36, Bool.true)))] [AV.int IntKind.i64 0, AV.sl []] Bool.true)),
(44, (TI.mk Bool.true 2 32 TK.struct [(0, ((3, Bool.true))), (1, ((36, Bool.true)))] [AV.int IntKind.i64 0, AV.sl []] Bool.true)),
(45, (TI.mk Bool.true 6 96 TK.struct [(0, ((3, Bool.true))), (1, ((3, Bool.true))), (2, ((9, Bool.true))), (3, ((9, Bool.true))), (4, ((35, Bool.true))), (5, ((37, Bool.true)))] [AV.int IntKind.i64 0, AV.int IntKind.i64 0, AV.str [], AV.str [], AV.sl [], AV.sl []] Bool.true)),
(46, (TI.mk Bool.true 6 96 TK.struct [(0, ((3, Bool.true))), (1, ((3, Bool.true))), (2, ((9, Bool.true))), (3, ((9, Bool.true))), (4, ((35, Bool.true))), (5, ((37, Bool.true)))] [AV.int IntKind.i64 0, AV.int IntKind.i64 0, AV.str [], AV.str [], AV.sl [], AV.sl []] Bool.true)),
(47, (TI.mk Bool.true 12 184 TK.struct [(0, ((9, Bool.true))), (1, ((4, Bool.true))), (2, ((36, Bool.true))), (3, ((44, Bool.true))), (5, ((3, Bool.true))), (6, ((46, Bool.true)))] [AV.str [], AV.bool Bool.false, AV.sl [], AV.int IntKind.i64 0, AV.sl [], AV.int IntKind.i64 0, AV.int IntKind.i64 0, AV.int IntKind.i64 0, AV.str [], AV.str [], AV.sl [], AV.sl []] Bool.true)),
(48, (TI.mk Bool.true 12 184 TK.struct [(0, ((9, Bool.true))), (1, ((4, Bool.true))), (2, ((36, Bool.true))), (3, ((44, Bool.true))), (5, ((3, Bool.true))), (6, ((46, Bool.true)))] [AV.str [], AV.bool Bool.false, AV.sl [], AV.int IntKind.i64 0, AV.sl [], AV.int IntKind.i64 0, AV.int IntKind.i64 0, AV.int IntKind.i64 0, AV.str [], AV.str [], AV.sl [], AV.sl []] Bool.true)),
(49, (TI.mk Bool.false 1 8 TK.func [] [AV.nilf] Bool.false)),
(50, (TI.mk Bool.false 1 8 TK.func [] [AV.nilf] Bool.false)),
(51, (TI.mk Bool.false 1 8 TK.func [] [AV.nilf] Bool.false)),
(52, (TI.mk Bool.false 1 8 TK.func [] [AV.nilf] Bool.false)),
(53, (TI.mk Bool.false 1 8 TK.func [] [AV.nilf] Bool.false)),
(54, (TI.mk Bool.false 1 8 (TK.map 24 24) [] [AV.nilm] Bool.false)),
(55, (TI.mk Bool.false 1 8 TK.func [] [AV.nilf] Bool.false)),
(56, (TI.mk Bool.false 1 8 (TK.map 24 48) [] [AV.nilm] Bool.false)),
(57, (TI.mk Bool.false 1 8 TK.func [] [AV.nilf] Bool.false)),
(58, (TI.mk Bool.false 1 0 TK.other [] [AV.any] Bool.false)),
(59, (TI.mk Bool.false 1 8 TK.func [] [AV.nilf] Bool.false)),
(60, (TI.mk Bool.false 1 0 TK.other [] [AV.any] Bool.false)),
(61, (TI.mk Bool.false 1 8 TK.func [] [AV.nilf] Bool.false)),
(62, (TI.mk Bool.false 1 24 (TK.slice 27) [] [AV.sl []] Bool.false)),
(63, (TI.mk Bool.false 1 8 TK.func [] [AV.nilf] Bool.false)),
(64, (TI.mk Bool.false 1 8 TK.func [] [AV.nilf] Bool.false)),
(65, (TI.mk Bool.false 1 8 TK.func [] [AV.nilf] Bool.false)),
(66, (TI.mk Bool.false 1 8 TK.func [] [AV.nilf] Bool.false)),
(67, (TI.mk Bool.false 1 8 TK.func [] [AV.nilf] Bool.false)),
(68, (TI.mk Bool.false 1 8 TK.func [] [AV.nilf] Bool.false)),
(69, (TI.mk Bool.false 1 8 TK.func [] [AV.nilf] Bool.false)),
(70, (TI.mk Bool.false 1 8 TK.func [] [AV.nilf] Bool.false)),
(71, (TI.mk Bool.false 1 8 TK.func [] [AV.nilf] Bool.false)),
(72, (TI.mk Bool.false 1 8 TK.func [] [AV.nilf] Bool.false)),
(73, (TI.mk Bool.false 1 8 TK.func [] [AV.nilf] Bool.false)),
(74, (TI.mk Bool.false 1 8 TK.func [] [AV.nilf] Bool.false)),
(75, (TI.mk Bool.false 1 8 TK.func [] [AV.nilf] Bool.false)),
(76, (TI.mk Bool.false 1 8 TK.func [] [AV.nilf] Bool.false)),
(77, (TI.mk Bool.true 3 48 TK.struct [(0, ((9, Bool.true))), (1, ((44, Bool.true)))] [AV.str [], AV.int IntKind.i64 0, AV.sl []] Bool.true)),
(78, (TI.mk Bool.true 3 48 TK.struct [(0, ((9, Bool.true))), (1, ((44, Bool.true)))] [AV.str [], AV.int IntKind.i64 0, AV.sl []] Bool.true)),
(79, (TI.mk Bool.false 1 8 (TK.map 9 4) [] [AV.nilm] Bool.false)),
(80, (TI.mk Bool.false 1 8 TK.func [] [AV.nilf] Bool.false)),
(81, (TI.mk Bool.false 1 8 TK.func [] [AV.nilf] Bool.false)),
(82, (TI.mk Bool.false 1 8 TK.func [] [AV.nilf] Bool.false)),
(83, (TI.mk Bool.false 1 8 (TK.map 24 4) [] [AV.nilm] Bool.false)),
(84, (TI.mk Bool.false 1 8 TK.func [] [AV.nilf] Bool.false)),
(85, (TI.mk Bool.false 1 8 TK.func [] [AV.nilf] Bool.false)),
(86, (TI.mk Bool.false 1 8 TK.func [] [AV.nilf] Bool.false)),
(87, (TI.mk Bool.false 1 8 TK.func [] [AV.nilf] Bool.false)),
(88, (TI.mk Bool.false 1 8 TK.func [] [AV.nilf] Bool.false)),
(89, (TI.mk Bool.false 1 8 TK.func [] [AV.nilf] Bool.false)),
(90, (TI.mk Bool.false 1 8 TK.func [] [AV.nilf] Bool.false)),
(91, (TI.mk Bool.false 1 8 TK.func [] [AV.nilf] Bool.false)),
(92, (TI.mk Bool.false 1 8 TK.func [] [AV.nilf] Bool.false)),
(93, (TI.mk Bool.false 1 8 (TK.int IntKind.u64) [] [AV.int IntKind.u64 0] Bool.false)),
(94, (TI.mk Bool.false 1 8 TK.func [] [AV.nilf] Bool.false)),
(95, (TI.mk Bool.false 1 8 TK.func [] [AV.nilf] Bool.false)),
(96, (TI.mk Bool.false 1 24 (TK.slice 3) [] [AV.sl []] Bool.false)),
(97, (TI.mk Bool.false 1 8 TK.func [] [AV.nilf] Bool.false)),
(98, (TI.mk Bool.false 1 8 TK.func [] [AV.nilf] Bool.false)),
(99, (TI.mk Bool.false 1 8 (TK.int IntKind.i64) [] [AV.int IntKind.i64 0] Bool.false)),
(100, (TI.mk Bool.false 1 0 TK.other [] [AV.any] Bool.false)),
(101, (TI.mk Bool.false 1 8 TK.func [] [AV.nilf] Bool.false)),
(102, (TI.mk Bool.false 1 8 TK.func [] [AV.nilf] Bool.false)),
(103, (TI.mk Bool.false 1 8 TK.func [] [AV.nilf] Bool.false)),
(104, (TI.mk Bool.false 1 0 TK.other [] [AV.any] Bool.false)),
(105, (TI.mk Bool.false 1 8 TK.func [] [AV.nilf] Bool.false)),
(106, (TI.mk Bool.false 1 8 TK.func [] [AV.nilf] Bool.false)),
(107, (TI.mk Bool.false 1 4 (TK.int IntKind.u32) [] [AV.int IntKind.u32 0] Bool.false)),
(108, (TI.mk Bool.false 1 8 TK.func [] [AV.nilf] Bool.false)),
(109, (TI.mk Bool.false 1 8 (TK.int IntKind.u64) [] [AV.int IntKind.u64 0] Bool.false)),
(110, (TI.mk Bool.false 1 8 (TK.int IntKind.u64) [] [AV.int IntKind.u64 0] Bool.false)),
(111, (TI.mk Bool.false 1 8 TK.func [] [AV.nilf] Bool.false)),
(112, (TI.mk Bool.false 1 8 TK.func [] [AV.nilf] Bool.false)),
(113, (TI.mk Bool.false 1 8 TK.func [] [AV.nilf] Bool.false)),
(114, (TI.mk Bool.false 1 8 TK.ptr [] [AV.nilp] Bool.false)),
(115, (TI.mk Bool.false 1 8 TK.func [] [AV.nilf] Bool.false)),
(116, (TI.mk Bool.false 1 8 TK.ptr [] [AV.nilp] Bool.false)),
(117, (TI.mk Bool.false 1 0 TK.other [] [AV.any] Bool.false)),
(118, (TI.mk Bool.false 1 8 TK.func [] [AV.nilf] Bool.false)),
(119, (TI.mk Bool.false 1 8 TK.func [] [AV.nilf] Bool.false)),
(120, (TI.mk Bool.true 4 40 TK.struct [(0, ((17, Bool.true))), (1, ((17, Bool.true))), (2, ((17, Bool.true))), (3, ((9, Bool.true)))] [AV.nilp, AV.nilp, AV.nilp, AV.str []] Bool.false)),
(121, (TI.mk Bool.true 4 40 TK.struct [(0, ((17, Bool.true))), (1, ((17, Bool.true))), (2, ((17, Bool.true))), (3, ((9, Bool.true)))] [AV.nilp, AV.nilp, AV.nilp, AV.str []] Bool.false)),
(122, (TI.mk Bool.true 0 0 (TK.array 0 16) [] [] Bool.false)),
(123, (TI.mk Bool.true 0 0 TK.struct [(0, ((122, Bool.false)))] [] Bool.false)),
(124, (TI.mk Bool.true 0 0 TK.struct [(0, ((122, Bool.false)))] [] Bool.false)),
(125, (TI.mk Bool.false 1 8 TK.func [] [AV.nilf] Bool.false)),
(126, (TI.mk Bool.false 1 1 (TK.int IntKind.u8) [] [AV.int IntKind.u8 0] Bool.false)),
(127, (TI.mk Bool.false 1 1 (TK.int IntKind.u8) [] [AV.int IntKind.u8 0] Bool.false)),
(128, (TI.mk Bool.false 1 8 TK.func [] [AV.nilf] Bool.false)),
(129, (TI.mk Bool.false 1 8 TK.ptr [] [AV.nilp] Bool.false)),
(130, (TI.mk Bool.false 1 4 (TK.int IntKind.i32) [] [AV.int IntKind.i32 0] Bool.false)),
(131, (TI.mk Bool.false 1 4 (TK.int IntKind.i32) [] [AV.int IntKind.i32 0] Bool.false)),
(132, (TI.mk Bool.true 11 48 TK.struct [(0, ((12, Bool.true))), (1, ((12, Bool.true))), (2, ((107, Bool.true))), (3, ((126, Bool.true))), (4, ((5, Bool.true))), (5, ((5, Bool.true))), (6, ((127, Bool.true))), (7, ((128, Bool.true))), (8, ((129, Bool.true))), (9, ((130, Bool.true))), (10, ((131, Bool.true)))] [AV.int IntKind.u64 0, AV.int IntKind.u64 0, AV.int IntKind.u32 0, AV.int IntKind.u8 0, AV.int IntKind.u8 0, AV.int IntKind.u8 0, AV.int IntKind.u8 0, AV.nilf, AV.nilp, AV.int IntKind.i32 0, AV.int IntKind.i32 0] Bool.false)),
(133, (TI.mk Bool.true 11 48 TK.struct [(0, ((12, Bool.true))), (1, ((12, Bool.true))), (2, ((107, Bool.true))), (3, ((126, Bool.true))), (4, ((5, Bool.true))), (5, ((5, Bool.true))), (6, ((127, Bool.true))), (7, ((128, Bool.true))), (8, ((129, Bool.true))), (9, ((130, Bool.true))), (10, ((131, Bool.true)))] [AV.int IntKind.u64 0, AV.int IntKind.u64 0, AV.int IntKind.u32 0, AV.int IntKind.u8 0, AV.int IntKind.u8 0, AV.int IntKind.u8 0, AV.int IntKind.u8 0, AV.nilf, AV.nilp, AV.int IntKind.i32 0, AV.int IntKind.i32 0] Bool.false)),
(134, (TI.mk Bool.false 1 8 TK.other [] [AV.nilp] Bool.false))]
def findT : List (Nat × TI) → Nat → Option TI
  | [], _ => none
  | (k, x) :: r, t => bif Nat.beq k t then some x else findT r t
noncomputable def T : TT := findT tab
def ann3 : Ann := { nl := [20, 21, 27, 28, 33, 36, 41, 44, 50, 53, 73, 76] }
def ann4 : Ann := { nl := [23, 27, 28, 34, 55, 56, 65, 66, 83, 88, 94, 98, 116, 118, 132, 144, 154, 160, 167, 173, 180, 186], loops := [(0, { vals := [(0, none), (4, none), (5, none), (7, none), (8, none), (9, none), (11, none)] }), (2, { vals := [(0, none), (7, none), (8, none), (14, none)] }), (4, { vals := [(0, none), (7, none), (8, none), (14, none), (15, none), (16, none)] })] }
def ann5 : Ann := { kinds := [(15, .S), (16, .S)], no := [28, 146], nl := [27, 34, 53, 58, 67, 69, 79, 89, 92, 97, 99, 112, 116, 118, 123, 126, 128, 136, 140, 145, 148, 163], lw := [15, 16], joins := [(131, { vals := [(0, none), (4, none), (5, none), (7, none), (8, none), (9, none), (10, none), (11, none), (12, none), (14, none), (16, none), (19, none)] }), (1000005, { vals := [(0, none), (4, none), (5, none), (7, none), (8, none), (9, none), (10, none), (11, none), (12, none), (14, none)] })], loops := [(0, { vals := [(0, none), (4, none), (5, none), (7, none), (8, none), (9, none), (10, none), (11, none)] }), (2, { vals := [(0, none), (4, none), (5, none), (7, none), (8, none), (9, none), (10, none), (11, none), (12, none), (13, none)] }), (4, { vals := [(0, none), (4, none), (5, none), (7, none), (8, none), (9, none), (10, none), (11, none), (12, none), (14, none)] }), (6, { vals := [(0, none), (4, none), (5, none), (7, none), (8, none), (9, none), (10, none), (11, none), (12, none), (14, none), (15, none), (16, none), (17, none), (18, none)] }), (8, { vals := [(7, none), (8, none), (9, none), (10, none), (20, none), (21, none), (22, none)] })] }
def ann6 : Ann := { kinds := [(1, .S), (2, .S), (3, .S)], no := [24, 48, 57, 65], nl := [14, 15, 20, 22, 23, 28, 34, 45, 46, 47, 53, 55, 56, 62, 64], lw := [1, 2, 3] }
def ann7 : Ann := { kinds := [(4, .S), (6, .S)], no := [39], nl := [20, 23, 33, 36, 38, 44, 50, 55, 60, 66, 72, 79, 86, 93], lw := [4, 6], loops := [(0, { vals := [(0, none), (3, none)] }), (2, { vals := [(0, none), (3, none), (4, none), (5, none)] })] }
def ann8 : Ann := { kinds := [(5, .L), (9, .S)], ha := [25, 35], no := [25, 34], nl := [14, 27], lw := [5, 9], loops := [(0, { vals := [(4, none), (8, none), (11, none), (6000, none), (6001, none)], locs := [(5, 6000, 0)], lbs := [(6000, 2)] })], ords := [(1, [0, 2, 1, 3, 4])] }
def ann9 : Ann := { kinds := [(8, .S), (14, .S)], no := [28, 29, 79, 92, 94], nl := [19, 25, 27, 42, 46, 50, 51, 52, 57, 59, 71, 78, 86, 91], lw := [8, 14], joins := [(1000005, { vals := [(0, none), (5, none), (10, some 2), (11, none), (12, some 1), (13, none), (15, none), (16, none)] })], loops := [(0, { vals := [(0, none), (5, none), (10, some 2), (11, none)] }), (2, { vals := [(0, none), (5, none), (10, some 2), (11, none), (12, some 1), (13, none)] }), (4, { vals := [(0, none), (5, none), (10, some 2), (11, none), (12, some 1), (13, none), (15, none), (16, none)] })] }
def ann10 : Ann := { nl := [20, 24], loops := [(0, { vals := [(0, none), (1, none), (5, none)] })] }
def ann11 : Ann := { kinds := [(6, .S)], nl := [12, 19], lw := [6] }
def ann12 : Ann := { kinds := [(5, .S)], nl := [9, 17, 19], lw := [5] }
def ann13 : Ann := { nl := [7], ords := [(1, [0, 2, 1, 3, 4, 5, 6])] }
def ann14 : Ann := { kinds := [(5, .S)], no := [23, 60], nl := [14, 20, 22, 34, 46, 53, 59], lw := [5], joins := [(1000003, { vals := [(0, none), (7, some 2), (8, none), (9, none), (10, none), (11, none)] })], loops := [(0, { vals := [(0, none), (7, some 2), (8, none), (9, none)] }), (2, { vals := [(0, none), (7, some 2), (8, none), (9, none), (10, none), (11, none)] })] }
def ann15 : Ann := { kinds := [(6, .H), (7, .S)], hl := [24], hb := [6], nl := [11, 19, 24], lw := [7], rz := true, loops := [(0, { vals := [(5, none), (6, none), (13, none)] })] }
def ann16 : Ann := { kinds := [(8, .S)], nl := [11, 24, 30], lw := [8], loops := [(0, { vals := [(0, none), (5, none), (6, none), (7, none)] })] }
def ann17 : Ann := { kinds := [(7, .S), (8, .S), (9, .S)], ha := [36], hb := [6], no := [35], nl := [22, 24, 31, 34], lw := [7, 8, 9], rz := true, loops := [(0, { vals := [(3, none), (5, none), (6, none), (14, none)] })], ords := [(6, [0, 1, 3, 8, 2, 4, 5, 6, 7, 9, 10])] }
def ann18 : Ann := { kinds := [(8, .S), (9, .S)], nl := [22, 31, 36, 40, 44, 51, 55, 61, 63, 67], lw := [8, 9], joins := [(1000003, { vals := [(0, none), (3, none), (5, none), (6, none), (7, none)] })], loops := [(0, { vals := [(0, none), (3, none), (5, none), (6, none)] }), (2, { vals := [(0, none), (3, none), (5, none), (6, none), (7, none)] })] }
def ann19 : Ann := { nl := [15, 16], loops := [(0, { vals := [(0, none), (3, none), (5, none)] })] }
def ann20 : Ann := { kinds := [(3, .S), (4, .S)], no := [6, 13, 16, 19, 22, 24], nl := [12, 18], lw := [3, 4] }
def ann21 : Ann := { nl := [17], loops := [(0, { vals := [(0, none), (3, none)] })] }
def ann22 : Ann := { nl := [18], loops := [(0, { vals := [(0, none), (3, none)] })] }
def ann23 : Ann := { nl := [15, 27, 31], loops := [(0, { vals := [(1, none), (2, none), (3, none), (7, none), (8, none)] })] }
def ann24 : Ann := { iso := false, kinds := [(5, .S), (10, .S), (11, .S)], no := [57], nl := [15, 22, 23, 25, 35, 41, 44, 51, 54, 56], lw := [5, 10, 11], so := [31], loops := [(0, { vals := [(0, none), (7, none), (8, some 2)] }), (2, { vals := [(0, none), (7, none), (8, some 2), (36, none), (37, none), (38, none)] })] }
def ann26 : Ann := { iso := false, hl := [21, 25], nl := [21, 25], loops := [(0, { vals := [(0, none), (2, none), (3, none)] })] }
def ann27 : Ann := { nl := [19, 21, 27, 38, 40, 45], lw := [4], loops := [(0, { vals := [(0, none), (3, none), (6, none), (5000, none), (5001, none), (5002, none), (5003, none), (5004, none), (5005, none), (5006, none), (5007, none), (5008, none), (5009, none), (5010, none), (5011, none)], locs := [(4, 5000, 0)], lbs := [(5000, 12)] }), (2, { vals := [(3, none), (7, none), (8, none), (5000, none), (5001, none), (5002, none), (5003, none), (5004, none), (5005, none), (5006, none), (5007, none), (5008, none), (5009, none), (5010, none), (5011, none)], locs := [(4, 5000, 0)], lbs := [(5000, 12)] })] }
def ann28 : Ann := { iso := false, kinds := [(5, .S)], nl := [7, 8, 13], lw := [5] }
def ann29 : Ann := { kinds := [(10, .S)], nl := [14, 17, 19, 22, 35, 39, 47, 55, 58], lw := [9, 10, 25], joins := [(15, { vals := [(0, none), (1, none), (3, none), (6, none)] }), (23, { vals := [(0, none), (1, none), (3, none), (6, none), (10000, none), (10001, none)], locs := [(9, 10000, 0)], lbs := [(10000, 2)] })], loops := [(0, { vals := [(0, none), (1, none), (3, none), (6, none), (12, none)] })] }
def ann31 : Ann := { iso := false }
def ann32 : Ann := { no := [15], nl := [6, 8, 11, 13] }
def ann33 : Ann := { no := [24, 30], nl := [15, 16, 23, 29, 40, 41], joins := [(43, { vals := [(0, none), (5, some 2), (6, none)] })], loops := [(0, { vals := [(0, none), (3, none), (5, some 2), (6, none)] })] }
def ann34 : Ann := { iso := false, kinds := [(5, .S)], nl := [7, 10, 15, 16], lw := [5], loops := [(0, { vals := [(1, none), (10, none), (11, none), (12, none)] })] }
def ann35 : Ann := { iso := false, hl := [6], nl := [4, 6, 8] }
def ann36 : Ann := { nl := [6, 9, 13, 20, 23], joins := [(7, { vals := [(1, none), (3, none)] })], loops := [(0, { vals := [(1, none), (3, none), (4, none)] })] }
def ann38 : Ann := { lw := [4] }
def ann39 : Ann := { nl := [13, 21, 33, 36], loops := [(0, { vals := [(1, none), (2, none), (3, none), (7, none), (8, none)] })] }
def ann41 : Ann := { iso := false, kinds := [(5, .S), (6, .S)], no := [12], nl := [9, 11, 15, 18, 19, 24, 31, 35, 38, 39], lw := [5, 6] }
def ann42 : Ann := { nl := [11], loops := [(0, { vals := [(3, none), (6, none), (7, none), (8, none)] })] }
def ann43 : Ann := { iso := false }
def ann45 : Ann := { kinds := [(3, .S)], nl := [4, 11], lw := [3], loops := [(0, { vals := [(0, none), (5, none)] })] }
def ann46 : Ann := { nl := [11], loops := [(0, { vals := [(3, none), (6, none), (7, none), (8, none)] })] }
def ann47 : Ann := {  }
def ann48 : Ann := { nl := [6, 8, 12, 14, 18, 20] }
def ann52 : Ann := { kinds := [(3, .S)], nl := [4, 11], lw := [3], loops := [(0, { vals := [(0, none), (5, none)] })] }
def ann54 : Ann := {  }
noncomputable def tabF : List (Nat × (Func × Ann)) := [
(3, (Try.f3, ann3)),
(4, (Try.f4, ann4)),
(5, (Try.f5, ann5)),
(6, (Try.f6, ann6)),
(7, (Try.f7, ann7)),
(8, (Try.f8, ann8)),
(9, (Try.f9, ann9)),
(10, (Try.f10, ann10)),
(11, (Try.f11, ann11)),
(12, (Try.f12, ann12)),
(13, (Try.f13, ann13)),
(14, (Try.f14, ann14)),
(15, (Try.f15, ann15)),
(16, (Try.f16, ann16)),
(17, (Try.f17, ann17)),
(18, (Try.f18, ann18)),
(19, (Try.f19, ann19)),
(20, (Try.f20, ann20)),
(21, (Try.f21, ann21)),
(22, (Try.f22, ann22)),
(23, (Try.f23, ann23)),
(24, (Try.f24, ann24)),
(26, (Try.f26, ann26)),
(27, (Try.f27, ann27)),
(28, (Try.f28, ann28)),
(29, (Try.f29, ann29)),
(31, (Try.f31, ann31)),
(32, (Try.f32, ann32)),
(33, (Try.f33, ann33)),
(34, (Try.f34, ann34)),
(35, (Try.f35, ann35)),
(36, (Try.f36, ann36)),
(38, (Try.f38, ann38)),
(39, (Try.f39, ann39)),
(41, (Try.f41, ann41)),
(42, (Try.f42, ann42)),
(43, (Try.f43, ann43)),
(45, (Try.f45, ann45)),
(46, (Try.f46, ann46)),
(47, (Try.f47, ann47)),
(48, (Try.f48, ann48)),
(52, (Try.f52, ann52)),
(54, (Try.f54, ann54))]
def findF : List (Nat × (Func × Ann)) → Nat → Option (Func × Ann)
  | [], _ => none
  | (k, x) :: r, t => bif Nat.beq k t then some x else findF r t
def own : FuncId → Option Nat := fun f =>  none
noncomputable def other : FuncId → Option ((FuncId → List AV → M AV) → List AV → M AV) := fun f =>
  bif Nat.beq f 25 then some (indexE) else bif Nat.beq f 30 then some (sortedE [45, 52] 32) else bif Nat.beq f 37 then some (sortRefE 32) else none
noncomputable def pg : Pg := { T := T, funcs := findF tabF, own := own, other := other, nw := fun f =>  false }
theorem hOther : OtherLim pg := by
  intro f E hE call calls hc
  have h0 : other f = some E := hE
  unfold other at h0
  rcases other_bif h0 with rfl | h0
  · exact LimF.const _
  rcases other_bif h0 with rfl | h0
  · exact LimF.const _
  rcases other_bif h0 with rfl | h0
  · exact LimF.const _
  cases h0
end Go.Proofs.Ytpnonheegflllaa
