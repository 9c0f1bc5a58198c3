/- What the operations do with values of the package api: written by a program. No condition. -/
import Derived.Test.YtgbopmciiadmlaaAnn
import Derived.Test.YtgbopmciiadmlaaLc
namespace Go.Proofs.Ytgbopmciiadmlaa
open Go Go.Av Go.Av.Ap
set_option maxRecDepth 100000
@[simp] theorem FA28_0 (cs : List AV) : fieldAddrA T 28 (.ip cs) 0 = some (.ip (cs.drop 0)) := rfl
@[simp] theorem FH28_0 (l k : Nat) : fieldAddrA T 28 (.hp l k) 0 = some (.hp l (k + 0)) := rfl
@[simp] theorem FA28_1 (cs : List AV) : fieldAddrA T 28 (.ip cs) 1 = some (.ip (cs.drop 1)) := rfl
@[simp] theorem FH28_1 (l k : Nat) : fieldAddrA T 28 (.hp l k) 1 = some (.hp l (k + 1)) := rfl
@[simp] theorem FA28_2 (cs : List AV) : fieldAddrA T 28 (.ip cs) 2 = some (.ip (cs.drop 2)) := rfl
@[simp] theorem FH28_2 (l k : Nat) : fieldAddrA T 28 (.hp l k) 2 = some (.hp l (k + 2)) := rfl
@[simp] theorem FA28_3 (cs : List AV) : fieldAddrA T 28 (.ip cs) 3 = some (.ip (cs.drop 3)) := rfl
@[simp] theorem FH28_3 (l k : Nat) : fieldAddrA T 28 (.hp l k) 3 = some (.hp l (k + 3)) := rfl
@[simp] theorem FA28_4 (cs : List AV) : fieldAddrA T 28 (.ip cs) 4 = some (.ip (cs.drop 4)) := rfl
@[simp] theorem FH28_4 (l k : Nat) : fieldAddrA T 28 (.hp l k) 4 = some (.hp l (k + 4)) := rfl
@[simp] theorem FA28_5 (cs : List AV) : fieldAddrA T 28 (.ip cs) 5 = some (.ip (cs.drop 5)) := rfl
@[simp] theorem FH28_5 (l k : Nat) : fieldAddrA T 28 (.hp l k) 5 = some (.hp l (k + 5)) := rfl
@[simp] theorem FA39_0 (cs : List AV) : fieldAddrA T 39 (.ip cs) 0 = some (.ip (cs.drop 0)) := rfl
@[simp] theorem FH39_0 (l k : Nat) : fieldAddrA T 39 (.hp l k) 0 = some (.hp l (k + 0)) := rfl
@[simp] theorem FA39_1 (cs : List AV) : fieldAddrA T 39 (.ip cs) 1 = some (.ip (cs.drop 1)) := rfl
@[simp] theorem FH39_1 (l k : Nat) : fieldAddrA T 39 (.hp l k) 1 = some (.hp l (k + 1)) := rfl
@[simp] theorem FA39_2 (cs : List AV) : fieldAddrA T 39 (.ip cs) 2 = some (.ip (cs.drop 2)) := rfl
@[simp] theorem FH39_2 (l k : Nat) : fieldAddrA T 39 (.hp l k) 2 = some (.hp l (k + 2)) := rfl
@[simp] theorem FA39_3 (cs : List AV) : fieldAddrA T 39 (.ip cs) 3 = some (.ip (cs.drop 3)) := rfl
@[simp] theorem FH39_3 (l k : Nat) : fieldAddrA T 39 (.hp l k) 3 = some (.hp l (k + 3)) := rfl
@[simp] theorem FA43_0 (cs : List AV) : fieldAddrA T 43 (.ip cs) 0 = some (.ip (cs.drop 0)) := rfl
@[simp] theorem FH43_0 (l k : Nat) : fieldAddrA T 43 (.hp l k) 0 = some (.hp l (k + 0)) := rfl
@[simp] theorem FA43_1 (cs : List AV) : fieldAddrA T 43 (.ip cs) 1 = some (.ip (cs.drop 1)) := rfl
@[simp] theorem FH43_1 (l k : Nat) : fieldAddrA T 43 (.hp l k) 1 = some (.hp l (k + 1)) := rfl
@[simp] theorem FA43_2 (cs : List AV) : fieldAddrA T 43 (.ip cs) 2 = some (.ip (cs.drop 5)) := rfl
@[simp] theorem FH43_2 (l k : Nat) : fieldAddrA T 43 (.hp l k) 2 = some (.hp l (k + 5)) := rfl
@[simp] theorem FA43_3 (cs : List AV) : fieldAddrA T 43 (.ip cs) 3 = some (.ip (cs.drop 6)) := rfl
@[simp] theorem FH43_3 (l k : Nat) : fieldAddrA T 43 (.hp l k) 3 = some (.hp l (k + 6)) := rfl
@[simp] theorem FA43_4 (cs : List AV) : fieldAddrA T 43 (.ip cs) 4 = some (.ip (cs.drop 7)) := rfl
@[simp] theorem FH43_4 (l k : Nat) : fieldAddrA T 43 (.hp l k) 4 = some (.hp l (k + 7)) := rfl
@[simp] theorem FA47_0 (cs : List AV) : fieldAddrA T 47 (.ip cs) 0 = some (.ip (cs.drop 0)) := rfl
@[simp] theorem FH47_0 (l k : Nat) : fieldAddrA T 47 (.hp l k) 0 = some (.hp l (k + 0)) := rfl
@[simp] theorem FA47_1 (cs : List AV) : fieldAddrA T 47 (.ip cs) 1 = some (.ip (cs.drop 1)) := rfl
@[simp] theorem FH47_1 (l k : Nat) : fieldAddrA T 47 (.hp l k) 1 = some (.hp l (k + 1)) := rfl
@[simp] theorem FA55_2 (cs : List AV) : fieldAddrA T 55 (.ip cs) 2 = some (.ip (cs.drop 2)) := rfl
@[simp] theorem FH55_2 (l k : Nat) : fieldAddrA T 55 (.hp l k) 2 = some (.hp l (k + 2)) := rfl
@[simp] theorem FA61_0 (cs : List AV) : fieldAddrA T 61 (.ip cs) 0 = some (.ip (cs.drop 0)) := rfl
@[simp] theorem FH61_0 (l k : Nat) : fieldAddrA T 61 (.hp l k) 0 = some (.hp l (k + 0)) := rfl
@[simp] theorem FA61_1 (cs : List AV) : fieldAddrA T 61 (.ip cs) 1 = some (.ip (cs.drop 1)) := rfl
@[simp] theorem FH61_1 (l k : Nat) : fieldAddrA T 61 (.hp l k) 1 = some (.hp l (k + 1)) := rfl
@[simp] theorem FA61_2 (cs : List AV) : fieldAddrA T 61 (.ip cs) 2 = some (.ip (cs.drop 2)) := rfl
@[simp] theorem FH61_2 (l k : Nat) : fieldAddrA T 61 (.hp l k) 2 = some (.hp l (k + 2)) := rfl
@[simp] theorem FA63_0 (cs : List AV) : fieldAddrA T 63 (.ip cs) 0 = some (.ip (cs.drop 0)) := rfl
@[simp] theorem FH63_0 (l k : Nat) : fieldAddrA T 63 (.hp l k) 0 = some (.hp l (k + 0)) := rfl
@[simp] theorem FA63_1 (cs : List AV) : fieldAddrA T 63 (.ip cs) 1 = some (.ip (cs.drop 1)) := rfl
@[simp] theorem FH63_1 (l k : Nat) : fieldAddrA T 63 (.hp l k) 1 = some (.hp l (k + 1)) := rfl
@[simp] theorem FA63_2 (cs : List AV) : fieldAddrA T 63 (.ip cs) 2 = some (.ip (cs.drop 2)) := rfl
@[simp] theorem FH63_2 (l k : Nat) : fieldAddrA T 63 (.hp l k) 2 = some (.hp l (k + 2)) := rfl
@[simp] theorem FA63_3 (cs : List AV) : fieldAddrA T 63 (.ip cs) 3 = some (.ip (cs.drop 3)) := rfl
@[simp] theorem FH63_3 (l k : Nat) : fieldAddrA T 63 (.hp l k) 3 = some (.hp l (k + 3)) := rfl
@[simp] theorem FA63_4 (cs : List AV) : fieldAddrA T 63 (.ip cs) 4 = some (.ip (cs.drop 4)) := rfl
@[simp] theorem FH63_4 (l k : Nat) : fieldAddrA T 63 (.hp l k) 4 = some (.hp l (k + 4)) := rfl
@[simp] theorem FA63_6 (cs : List AV) : fieldAddrA T 63 (.ip cs) 6 = some (.ip (cs.drop 6)) := rfl
@[simp] theorem FH63_6 (l k : Nat) : fieldAddrA T 63 (.hp l k) 6 = some (.hp l (k + 6)) := rfl
@[simp] theorem FA65_1 (cs : List AV) : fieldAddrA T 65 (.ip cs) 1 = some (.ip (cs.drop 1)) := rfl
@[simp] theorem FH65_1 (l k : Nat) : fieldAddrA T 65 (.hp l k) 1 = some (.hp l (k + 1)) := rfl
@[simp] theorem FA67_0 (cs : List AV) : fieldAddrA T 67 (.ip cs) 0 = some (.ip (cs.drop 0)) := rfl
@[simp] theorem FH67_0 (l k : Nat) : fieldAddrA T 67 (.hp l k) 0 = some (.hp l (k + 0)) := rfl
@[simp] theorem FA67_1 (cs : List AV) : fieldAddrA T 67 (.ip cs) 1 = some (.ip (cs.drop 1)) := rfl
@[simp] theorem FH67_1 (l k : Nat) : fieldAddrA T 67 (.hp l k) 1 = some (.hp l (k + 1)) := rfl
@[simp] theorem FA67_2 (cs : List AV) : fieldAddrA T 67 (.ip cs) 2 = some (.ip (cs.drop 2)) := rfl
@[simp] theorem FH67_2 (l k : Nat) : fieldAddrA T 67 (.hp l k) 2 = some (.hp l (k + 2)) := rfl
@[simp] theorem FA67_3 (cs : List AV) : fieldAddrA T 67 (.ip cs) 3 = some (.ip (cs.drop 3)) := rfl
@[simp] theorem FH67_3 (l k : Nat) : fieldAddrA T 67 (.hp l k) 3 = some (.hp l (k + 3)) := rfl
@[simp] theorem FA67_5 (cs : List AV) : fieldAddrA T 67 (.ip cs) 5 = some (.ip (cs.drop 6)) := rfl
@[simp] theorem FH67_5 (l k : Nat) : fieldAddrA T 67 (.hp l k) 5 = some (.hp l (k + 6)) := rfl
@[simp] theorem FA69_0 (cs : List AV) : fieldAddrA T 69 (.ip cs) 0 = some (.ip (cs.drop 0)) := rfl
@[simp] theorem FH69_0 (l k : Nat) : fieldAddrA T 69 (.hp l k) 0 = some (.hp l (k + 0)) := rfl
@[simp] theorem FA69_1 (cs : List AV) : fieldAddrA T 69 (.ip cs) 1 = some (.ip (cs.drop 1)) := rfl
@[simp] theorem FH69_1 (l k : Nat) : fieldAddrA T 69 (.hp l k) 1 = some (.hp l (k + 1)) := rfl
@[simp] theorem FA69_2 (cs : List AV) : fieldAddrA T 69 (.ip cs) 2 = some (.ip (cs.drop 2)) := rfl
@[simp] theorem FH69_2 (l k : Nat) : fieldAddrA T 69 (.hp l k) 2 = some (.hp l (k + 2)) := rfl
@[simp] theorem FA81_0 (cs : List AV) : fieldAddrA T 81 (.ip cs) 0 = some (.ip (cs.drop 0)) := rfl
@[simp] theorem FH81_0 (l k : Nat) : fieldAddrA T 81 (.hp l k) 0 = some (.hp l (k + 0)) := rfl
@[simp] theorem FA81_1 (cs : List AV) : fieldAddrA T 81 (.ip cs) 1 = some (.ip (cs.drop 1)) := rfl
@[simp] theorem FH81_1 (l k : Nat) : fieldAddrA T 81 (.hp l k) 1 = some (.hp l (k + 1)) := rfl
@[simp] theorem FA81_2 (cs : List AV) : fieldAddrA T 81 (.ip cs) 2 = some (.ip (cs.drop 2)) := rfl
@[simp] theorem FH81_2 (l k : Nat) : fieldAddrA T 81 (.hp l k) 2 = some (.hp l (k + 2)) := rfl
@[simp] theorem FA81_3 (cs : List AV) : fieldAddrA T 81 (.ip cs) 3 = some (.ip (cs.drop 3)) := rfl
@[simp] theorem FH81_3 (l k : Nat) : fieldAddrA T 81 (.hp l k) 3 = some (.hp l (k + 3)) := rfl
@[simp] theorem FA81_4 (cs : List AV) : fieldAddrA T 81 (.ip cs) 4 = some (.ip (cs.drop 4)) := rfl
@[simp] theorem FH81_4 (l k : Nat) : fieldAddrA T 81 (.hp l k) 4 = some (.hp l (k + 4)) := rfl
@[simp] theorem FA95_0 (cs : List AV) : fieldAddrA T 95 (.ip cs) 0 = some (.ip (cs.drop 0)) := rfl
@[simp] theorem FH95_0 (l k : Nat) : fieldAddrA T 95 (.hp l k) 0 = some (.hp l (k + 0)) := rfl
@[simp] theorem FA95_1 (cs : List AV) : fieldAddrA T 95 (.ip cs) 1 = some (.ip (cs.drop 1)) := rfl
@[simp] theorem FH95_1 (l k : Nat) : fieldAddrA T 95 (.hp l k) 1 = some (.hp l (k + 1)) := rfl
@[simp] theorem FA95_2 (cs : List AV) : fieldAddrA T 95 (.ip cs) 2 = some (.ip (cs.drop 9)) := rfl
@[simp] theorem FH95_2 (l k : Nat) : fieldAddrA T 95 (.hp l k) 2 = some (.hp l (k + 9)) := rfl
@[simp] theorem FA95_3 (cs : List AV) : fieldAddrA T 95 (.ip cs) 3 = some (.ip (cs.drop 10)) := rfl
@[simp] theorem FH95_3 (l k : Nat) : fieldAddrA T 95 (.hp l k) 3 = some (.hp l (k + 10)) := rfl
@[simp] theorem FA95_4 (cs : List AV) : fieldAddrA T 95 (.ip cs) 4 = some (.ip (cs.drop 11)) := rfl
@[simp] theorem FH95_4 (l k : Nat) : fieldAddrA T 95 (.hp l k) 4 = some (.hp l (k + 11)) := rfl
@[simp] theorem FA95_5 (cs : List AV) : fieldAddrA T 95 (.ip cs) 5 = some (.ip (cs.drop 12)) := rfl
@[simp] theorem FH95_5 (l k : Nat) : fieldAddrA T 95 (.hp l k) 5 = some (.hp l (k + 12)) := rfl
@[simp] theorem FA98_0 (cs : List AV) : fieldAddrA T 98 (.ip cs) 0 = some (.ip (cs.drop 0)) := rfl
@[simp] theorem FH98_0 (l k : Nat) : fieldAddrA T 98 (.hp l k) 0 = some (.hp l (k + 0)) := rfl
@[simp] theorem FA98_1 (cs : List AV) : fieldAddrA T 98 (.ip cs) 1 = some (.ip (cs.drop 1)) := rfl
@[simp] theorem FH98_1 (l k : Nat) : fieldAddrA T 98 (.hp l k) 1 = some (.hp l (k + 1)) := rfl
@[simp] theorem FA98_2 (cs : List AV) : fieldAddrA T 98 (.ip cs) 2 = some (.ip (cs.drop 2)) := rfl
@[simp] theorem FH98_2 (l k : Nat) : fieldAddrA T 98 (.hp l k) 2 = some (.hp l (k + 2)) := rfl
@[simp] theorem FA101_0 (cs : List AV) : fieldAddrA T 101 (.ip cs) 0 = some (.ip (cs.drop 0)) := rfl
@[simp] theorem FH101_0 (l k : Nat) : fieldAddrA T 101 (.hp l k) 0 = some (.hp l (k + 0)) := rfl
@[simp] theorem FA101_1 (cs : List AV) : fieldAddrA T 101 (.ip cs) 1 = some (.ip (cs.drop 1)) := rfl
@[simp] theorem FH101_1 (l k : Nat) : fieldAddrA T 101 (.hp l k) 1 = some (.hp l (k + 1)) := rfl
@[simp] theorem FA101_2 (cs : List AV) : fieldAddrA T 101 (.ip cs) 2 = some (.ip (cs.drop 2)) := rfl
@[simp] theorem FH101_2 (l k : Nat) : fieldAddrA T 101 (.hp l k) 2 = some (.hp l (k + 2)) := rfl
@[simp] theorem FA104_0 (cs : List AV) : fieldAddrA T 104 (.ip cs) 0 = some (.ip (cs.drop 0)) := rfl
@[simp] theorem FH104_0 (l k : Nat) : fieldAddrA T 104 (.hp l k) 0 = some (.hp l (k + 0)) := rfl
@[simp] theorem FA104_1 (cs : List AV) : fieldAddrA T 104 (.ip cs) 1 = some (.ip (cs.drop 1)) := rfl
@[simp] theorem FH104_1 (l k : Nat) : fieldAddrA T 104 (.hp l k) 1 = some (.hp l (k + 1)) := rfl
@[simp] theorem LD3 (x : AV) (l : List AV) : loadA T 3 (.ip (x :: l)) = some x := rfl
@[simp] theorem LD4 (x : AV) (l : List AV) : loadA T 4 (.ip (x :: l)) = some x := rfl
@[simp] theorem LD9 (x : AV) (l : List AV) : loadA T 9 (.ip (x :: l)) = some x := rfl
@[simp] theorem LD22 (x : AV) (l : List AV) : loadA T 22 (.ip (x :: l)) = some x := rfl
@[simp] theorem LD23 (x : AV) (l : List AV) : loadA T 23 (.ip (x :: l)) = some x := rfl
@[simp] theorem LD24 (x : AV) (l : List AV) : loadA T 24 (.ip (x :: l)) = some x := rfl
@[simp] theorem LD25 (x : AV) (l : List AV) : loadA T 25 (.ip (x :: l)) = some x := rfl
@[simp] theorem LD26 (x : AV) (l : List AV) : loadA T 26 (.ip (x :: l)) = some x := rfl
@[simp] theorem LD28 (cs : List AV) : loadA T 28 (.ip cs) = if 6 ≤ cs.length then some (.agg (cs.take 6)) else none := rfl
@[simp] theorem LD32 (x : AV) (l : List AV) : loadA T 32 (.ip (x :: l)) = some x := rfl
@[simp] theorem LD33 (x : AV) (l : List AV) : loadA T 33 (.ip (x :: l)) = some x := rfl
@[simp] theorem LD39 (cs : List AV) : loadA T 39 (.ip cs) = if 4 ≤ cs.length then some (.agg (cs.take 4)) else none := rfl
@[simp] theorem LD40 (x : AV) (l : List AV) : loadA T 40 (.ip (x :: l)) = some x := rfl
@[simp] theorem LD41 (x : AV) (l : List AV) : loadA T 41 (.ip (x :: l)) = some x := rfl
@[simp] theorem LD43 (cs : List AV) : loadA T 43 (.ip cs) = if 8 ≤ cs.length then some (.agg (cs.take 8)) else none := rfl
@[simp] theorem LD47 (cs : List AV) : loadA T 47 (.ip cs) = if 2 ≤ cs.length then some (.agg (cs.take 2)) else none := rfl
@[simp] theorem LD55 (cs : List AV) : loadA T 55 (.ip cs) = if 3 ≤ cs.length then some (.agg (cs.take 3)) else none := rfl
@[simp] theorem LD58 (x : AV) (l : List AV) : loadA T 58 (.ip (x :: l)) = some x := rfl
@[simp] theorem LD59 (x : AV) (l : List AV) : loadA T 59 (.ip (x :: l)) = some x := rfl
@[simp] theorem LD63 (cs : List AV) : loadA T 63 (.ip cs) = if 9 ≤ cs.length then some (.agg (cs.take 9)) else none := rfl
@[simp] theorem LD65 (cs : List AV) : loadA T 65 (.ip cs) = if 2 ≤ cs.length then some (.agg (cs.take 2)) else none := rfl
@[simp] theorem LD67 (cs : List AV) : loadA T 67 (.ip cs) = if 12 ≤ cs.length then some (.agg (cs.take 12)) else none := rfl
@[simp] theorem LD79 (x : AV) (l : List AV) : loadA T 79 (.ip (x :: l)) = some x := rfl
@[simp] theorem LD98 (cs : List AV) : loadA T 98 (.ip cs) = if 3 ≤ cs.length then some (.agg (cs.take 3)) else none := rfl
@[simp] theorem LD101 (cs : List AV) : loadA T 101 (.ip cs) = if 3 ≤ cs.length then some (.agg (cs.take 3)) else none := rfl
@[simp] theorem LD104 (cs : List AV) : loadA T 104 (.ip cs) = if 3 ≤ cs.length then some (.agg (cs.take 3)) else none := rfl
@[simp] theorem LEN22 (es : List AV) : lenA T 22 (.sl es) = some (.int .i64 es.length) := rfl
@[simp] theorem LENN22 : lenA T 22 .hn = some (.int .i64 0) := rfl
@[simp] theorem LENH22 (l k n s : Nat) (a : Bool) : lenA T 22 (.hs l k n s a) = some (.int .i64 n) := rfl
@[simp] theorem LENE22 (l : List Mod) : lenA T 22 (mods l) = some (.int .i64 l.length) := (LEN22 _).trans (by simp)
@[simp] theorem LEN23 (es : List AV) : lenA T 23 (.sl es) = some (.int .i64 es.length) := rfl
@[simp] theorem LENN23 : lenA T 23 .hn = some (.int .i64 0) := rfl
@[simp] theorem LENH23 (l k n s : Nat) (a : Bool) : lenA T 23 (.hs l k n s a) = some (.int .i64 n) := rfl
@[simp] theorem LENE23 (l : List Val) : lenA T 23 (vals l) = some (.int .i64 l.length) := (LEN23 _).trans (by simp [valsAv_map])
@[simp] theorem LEN24 (es : List AV) : lenA T 24 (.sl es) = some (.int .i64 es.length) := rfl
@[simp] theorem LENN24 : lenA T 24 .hn = some (.int .i64 0) := rfl
@[simp] theorem LENH24 (l k n s : Nat) (a : Bool) : lenA T 24 (.hs l k n s a) = some (.int .i64 n) := rfl
@[simp] theorem LENE24 (l : List Int) : lenA T 24 (ints l) = some (.int .i64 l.length) := (LEN24 _).trans (by simp)
@[simp] theorem LEN25 (es : List AV) : lenA T 25 (.sl es) = some (.int .i64 es.length) := rfl
@[simp] theorem LENN25 : lenA T 25 .hn = some (.int .i64 0) := rfl
@[simp] theorem LENH25 (l k n s : Nat) (a : Bool) : lenA T 25 (.hs l k n s a) = some (.int .i64 n) := rfl
@[simp] theorem LENE25 (l : List Str) : lenA T 25 (strs l) = some (.int .i64 l.length) := (LEN25 _).trans (by simp)
@[simp] theorem LEN26 (es : List AV) : lenA T 26 (.sl es) = some (.int .i64 es.length) := rfl
@[simp] theorem LENN26 : lenA T 26 .hn = some (.int .i64 0) := rfl
@[simp] theorem LENH26 (l k n s : Nat) (a : Bool) : lenA T 26 (.hs l k n s a) = some (.int .i64 n) := rfl
@[simp] theorem LENE26 (l : List Exp) : lenA T 26 (exps l) = some (.int .i64 l.length) := (LEN26 _).trans (by simp [expsAv_map])
@[simp] theorem LEN32 (es : List AV) : lenA T 32 (.sl es) = some (.int .i64 es.length) := rfl
@[simp] theorem LENN32 : lenA T 32 .hn = some (.int .i64 0) := rfl
@[simp] theorem LENH32 (l k n s : Nat) (a : Bool) : lenA T 32 (.hs l k n s a) = some (.int .i64 n) := rfl
@[simp] theorem LENE32 (l : List Vars) : lenA T 32 (varss l) = some (.int .i64 l.length) := (LEN32 _).trans (by simp)
@[simp] theorem LEN40 (es : List AV) : lenA T 40 (.sl es) = some (.int .i64 es.length) := rfl
@[simp] theorem LENN40 : lenA T 40 .hn = some (.int .i64 0) := rfl
@[simp] theorem LENH40 (l k n s : Nat) (a : Bool) : lenA T 40 (.hs l k n s a) = some (.int .i64 n) := rfl
@[simp] theorem LENE40 (l : List Deed) : lenA T 40 (deeds l) = some (.int .i64 l.length) := (LEN40 _).trans (by simp)
@[simp] theorem LEN41 (es : List AV) : lenA T 41 (.sl es) = some (.int .i64 es.length) := rfl
@[simp] theorem LENN41 : lenA T 41 .hn = some (.int .i64 0) := rfl
@[simp] theorem LENH41 (l k n s : Nat) (a : Bool) : lenA T 41 (.hs l k n s a) = some (.int .i64 n) := rfl
@[simp] theorem LENE41 (l : List Ap.Call) : lenA T 41 (Ap.calls l) = some (.int .i64 l.length) := (LEN41 _).trans (by simp)
@[simp] theorem LEN58 (es : List AV) : lenA T 58 (.sl es) = some (.int .i64 es.length) := rfl
@[simp] theorem LENN58 : lenA T 58 .hn = some (.int .i64 0) := rfl
@[simp] theorem LENH58 (l k n s : Nat) (a : Bool) : lenA T 58 (.hs l k n s a) = some (.int .i64 n) := rfl
@[simp] theorem LENE58 (l : List Fld) : lenA T 58 (flds l) = some (.int .i64 l.length) := (LEN58 _).trans (by simp [fldsAv_map])
@[simp] theorem LEN59 (es : List AV) : lenA T 59 (.sl es) = some (.int .i64 es.length) := rfl
@[simp] theorem LENN59 : lenA T 59 .hn = some (.int .i64 0) := rfl
@[simp] theorem LENH59 (l k n s : Nat) (a : Bool) : lenA T 59 (.hs l k n s a) = some (.int .i64 n) := rfl
@[simp] theorem LENE59 (l : List Fun) : lenA T 59 (funs l) = some (.int .i64 l.length) := (LEN59 _).trans (by simp)
theorem IX22 {l : List Mod} {n : Int} (h0 : 0 ≤ n) (h : n < (l.length : Int)) : indexAddrA T 22 (mods l) (.int .i64 n) = some (.ip (acells (Mod.av l[n.toNat]!))) := indexAddrA_int (T := T) (t := 22) (e := 63) rfl rfl rfl (fun _ => by first | rfl | (simp; done) | (simp; rfl)) h0 h
theorem IX23 {l : List Val} {n : Int} (h0 : 0 ≤ n) (h : n < (l.length : Int)) : indexAddrA T 23 (vals l) (.int .i64 n) = some (.ip (acells (Val.av l[n.toNat]!))) := by rw [vals, valsAv_map]; exact indexAddrA_int (T := T) (t := 23) (e := 39) rfl rfl rfl (fun _ => by first | rfl | (simp; done) | (simp; rfl)) h0 h
theorem IX24 {l : List Int} {n : Int} (h0 : 0 ≤ n) (h : n < (l.length : Int)) : indexAddrA T 24 (ints l) (.int .i64 n) = some (.ip (acells (AV.int .i64 l[n.toNat]!))) := indexAddrA_int (T := T) (t := 24) (e := 3) rfl rfl rfl (fun _ => by first | rfl | (simp; done) | (simp; rfl)) h0 h
theorem IX25 {l : List Str} {n : Int} (h0 : 0 ≤ n) (h : n < (l.length : Int)) : indexAddrA T 25 (strs l) (.int .i64 n) = some (.ip (acells (AV.str l[n.toNat]!))) := indexAddrA_int (T := T) (t := 25) (e := 9) rfl rfl rfl (fun _ => by first | rfl | (simp; done) | (simp; rfl)) h0 h
theorem IX26 {l : List Exp} {n : Int} (h0 : 0 ≤ n) (h : n < (l.length : Int)) : indexAddrA T 26 (exps l) (.int .i64 n) = some (.ip (acells (Exp.av l[n.toNat]!))) := by rw [exps, expsAv_map]; exact indexAddrA_int (T := T) (t := 26) (e := 28) rfl rfl rfl (fun _ => by first | rfl | (simp; done) | (simp; rfl)) h0 h
theorem IX32 {l : List Vars} {n : Int} (h0 : 0 ≤ n) (h : n < (l.length : Int)) : indexAddrA T 32 (varss l) (.int .i64 n) = some (.ip (acells (Vars.av l[n.toNat]!))) := indexAddrA_int (T := T) (t := 32) (e := 47) rfl rfl rfl (fun _ => by first | rfl | (simp; done) | (simp; rfl)) h0 h
theorem IX40 {l : List Deed} {n : Int} (h0 : 0 ≤ n) (h : n < (l.length : Int)) : indexAddrA T 40 (deeds l) (.int .i64 n) = some (.ip (acells (Deed.av l[n.toNat]!))) := indexAddrA_int (T := T) (t := 40) (e := 55) rfl rfl rfl (fun _ => by first | rfl | (simp; done) | (simp; rfl)) h0 h
theorem IX41 {l : List Ap.Call} {n : Int} (h0 : 0 ≤ n) (h : n < (l.length : Int)) : indexAddrA T 41 (Ap.calls l) (.int .i64 n) = some (.ip (acells (Ap.Call.av l[n.toNat]!))) := indexAddrA_int (T := T) (t := 41) (e := 69) rfl rfl rfl (fun _ => by first | rfl | (simp; done) | (simp; rfl)) h0 h
theorem IX58 {l : List Fld} {n : Int} (h0 : 0 ≤ n) (h : n < (l.length : Int)) : indexAddrA T 58 (flds l) (.int .i64 n) = some (.ip (acells (fldAv l[n.toNat]!))) := by rw [flds, fldsAv_map]; exact indexAddrA_int (T := T) (t := 58) (e := 104) rfl rfl rfl (fun _ => by first | rfl | (simp; done) | (simp; rfl)) h0 h
theorem IX59 {l : List Fun} {n : Int} (h0 : 0 ≤ n) (h : n < (l.length : Int)) : indexAddrA T 59 (funs l) (.int .i64 n) = some (.ip (acells (Fun.av l[n.toNat]!))) := indexAddrA_int (T := T) (t := 59) (e := 67) rfl rfl rfl (fun _ => by first | rfl | (simp; done) | (simp; rfl)) h0 h
theorem AP22 {a b : List Mod} (h : (a.length + b.length) * 192 ≤ 140737488355328) : appA T 22 (mods a) (mods b) = some (mods (a ++ b)) := by
  have := appA_map (T := T) (t := 22) (e := 63) rfl rfl rfl (f := Mod.av) (fun _ => by first | rfl | (simp; done) | (simp; rfl)) (a := a) (b := b) h (by decide)
  simpa [mods] using this
theorem AP23 {a b : List Val} (h : (a.length + b.length) * 64 ≤ 140737488355328) : appA T 23 (vals a) (vals b) = some (vals (a ++ b)) := by
  have := appA_map (T := T) (t := 23) (e := 39) rfl rfl rfl (f := Val.av) (fun _ => by first | rfl | (simp; done) | (simp; rfl)) (a := a) (b := b) h (by decide)
  simpa [vals, valsAv_map] using this
theorem AP24 {a b : List Int} (h : (a.length + b.length) * 8 ≤ 140737488355328) : appA T 24 (ints a) (ints b) = some (ints (a ++ b)) := by
  have := appA_map (T := T) (t := 24) (e := 3) rfl rfl rfl (f := AV.int .i64) (fun _ => by first | rfl | (simp; done) | (simp; rfl)) (a := a) (b := b) h (by decide)
  simpa [ints] using this
theorem AP25 {a b : List Str} (h : (a.length + b.length) * 16 ≤ 140737488355328) : appA T 25 (strs a) (strs b) = some (strs (a ++ b)) := by
  have := appA_map (T := T) (t := 25) (e := 9) rfl rfl rfl (f := AV.str) (fun _ => by first | rfl | (simp; done) | (simp; rfl)) (a := a) (b := b) h (by decide)
  simpa [strs] using this
theorem AP26 {a b : List Exp} (h : (a.length + b.length) * 96 ≤ 140737488355328) : appA T 26 (exps a) (exps b) = some (exps (a ++ b)) := by
  have := appA_map (T := T) (t := 26) (e := 28) rfl rfl rfl (f := Exp.av) (fun _ => by first | rfl | (simp; done) | (simp; rfl)) (a := a) (b := b) h (by decide)
  simpa [exps, expsAv_map] using this
theorem AP32 {a b : List Vars} (h : (a.length + b.length) * 40 ≤ 140737488355328) : appA T 32 (varss a) (varss b) = some (varss (a ++ b)) := by
  have := appA_map (T := T) (t := 32) (e := 47) rfl rfl rfl (f := Vars.av) (fun _ => by first | rfl | (simp; done) | (simp; rfl)) (a := a) (b := b) h (by decide)
  simpa [varss] using this
end Go.Proofs.Ytgbopmciiadmlaa
