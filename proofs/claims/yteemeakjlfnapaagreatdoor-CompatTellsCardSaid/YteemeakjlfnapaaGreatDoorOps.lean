/- What the operations do with values of the package api: written by a program. No condition. -/
import Derived.Test.YteemeakjlfnapaaGreatDoorAnn
import Derived.Test.YteemeakjlfnapaaGreatDoorLd
namespace Go.Proofs.YteemeakjlfnapaaGreatDoor
open Go Go.Av Go.Av.Ap
set_option maxRecDepth 100000
@[simp] theorem FA24_0 (cs : List AV) : fieldAddrA T 24 (.ip cs) 0 = some (.ip (cs.drop 0)) := rfl
@[simp] theorem FH24_0 (l k : Nat) : fieldAddrA T 24 (.hp l k) 0 = some (.hp l (k + 0)) := rfl
@[simp] theorem FA24_1 (cs : List AV) : fieldAddrA T 24 (.ip cs) 1 = some (.ip (cs.drop 1)) := rfl
@[simp] theorem FH24_1 (l k : Nat) : fieldAddrA T 24 (.hp l k) 1 = some (.hp l (k + 1)) := rfl
@[simp] theorem FA27_0 (cs : List AV) : fieldAddrA T 27 (.ip cs) 0 = some (.ip (cs.drop 0)) := rfl
@[simp] theorem FH27_0 (l k : Nat) : fieldAddrA T 27 (.hp l k) 0 = some (.hp l (k + 0)) := rfl
@[simp] theorem FA27_1 (cs : List AV) : fieldAddrA T 27 (.ip cs) 1 = some (.ip (cs.drop 1)) := rfl
@[simp] theorem FH27_1 (l k : Nat) : fieldAddrA T 27 (.hp l k) 1 = some (.hp l (k + 1)) := rfl
@[simp] theorem FA29_0 (cs : List AV) : fieldAddrA T 29 (.ip cs) 0 = some (.ip (cs.drop 0)) := rfl
@[simp] theorem FH29_0 (l k : Nat) : fieldAddrA T 29 (.hp l k) 0 = some (.hp l (k + 0)) := rfl
@[simp] theorem FA29_1 (cs : List AV) : fieldAddrA T 29 (.ip cs) 1 = some (.ip (cs.drop 1)) := rfl
@[simp] theorem FH29_1 (l k : Nat) : fieldAddrA T 29 (.hp l k) 1 = some (.hp l (k + 1)) := rfl
@[simp] theorem FA29_2 (cs : List AV) : fieldAddrA T 29 (.ip cs) 2 = some (.ip (cs.drop 2)) := rfl
@[simp] theorem FH29_2 (l k : Nat) : fieldAddrA T 29 (.hp l k) 2 = some (.hp l (k + 2)) := rfl
@[simp] theorem FA39_0 (cs : List AV) : fieldAddrA T 39 (.ip cs) 0 = some (.ip (cs.drop 0)) := rfl
@[simp] theorem FH39_0 (l k : Nat) : fieldAddrA T 39 (.hp l k) 0 = some (.hp l (k + 0)) := rfl
@[simp] theorem FA39_1 (cs : List AV) : fieldAddrA T 39 (.ip cs) 1 = some (.ip (cs.drop 1)) := rfl
@[simp] theorem FH39_1 (l k : Nat) : fieldAddrA T 39 (.hp l k) 1 = some (.hp l (k + 1)) := rfl
@[simp] theorem FA39_2 (cs : List AV) : fieldAddrA T 39 (.ip cs) 2 = some (.ip (cs.drop 2)) := rfl
@[simp] theorem FH39_2 (l k : Nat) : fieldAddrA T 39 (.hp l k) 2 = some (.hp l (k + 2)) := rfl
@[simp] theorem FA41_0 (cs : List AV) : fieldAddrA T 41 (.ip cs) 0 = some (.ip (cs.drop 0)) := rfl
@[simp] theorem FH41_0 (l k : Nat) : fieldAddrA T 41 (.hp l k) 0 = some (.hp l (k + 0)) := rfl
@[simp] theorem FA41_1 (cs : List AV) : fieldAddrA T 41 (.ip cs) 1 = some (.ip (cs.drop 1)) := rfl
@[simp] theorem FH41_1 (l k : Nat) : fieldAddrA T 41 (.hp l k) 1 = some (.hp l (k + 1)) := rfl
@[simp] theorem FA41_2 (cs : List AV) : fieldAddrA T 41 (.ip cs) 2 = some (.ip (cs.drop 2)) := rfl
@[simp] theorem FH41_2 (l k : Nat) : fieldAddrA T 41 (.hp l k) 2 = some (.hp l (k + 2)) := rfl
@[simp] theorem FA41_3 (cs : List AV) : fieldAddrA T 41 (.ip cs) 3 = some (.ip (cs.drop 3)) := rfl
@[simp] theorem FH41_3 (l k : Nat) : fieldAddrA T 41 (.hp l k) 3 = some (.hp l (k + 3)) := rfl
@[simp] theorem FA41_4 (cs : List AV) : fieldAddrA T 41 (.ip cs) 4 = some (.ip (cs.drop 4)) := rfl
@[simp] theorem FH41_4 (l k : Nat) : fieldAddrA T 41 (.hp l k) 4 = some (.hp l (k + 4)) := rfl
@[simp] theorem FA41_5 (cs : List AV) : fieldAddrA T 41 (.ip cs) 5 = some (.ip (cs.drop 5)) := rfl
@[simp] theorem FH41_5 (l k : Nat) : fieldAddrA T 41 (.hp l k) 5 = some (.hp l (k + 5)) := rfl
@[simp] theorem FA41_6 (cs : List AV) : fieldAddrA T 41 (.ip cs) 6 = some (.ip (cs.drop 6)) := rfl
@[simp] theorem FH41_6 (l k : Nat) : fieldAddrA T 41 (.hp l k) 6 = some (.hp l (k + 6)) := rfl
@[simp] theorem FA47_0 (cs : List AV) : fieldAddrA T 47 (.ip cs) 0 = some (.ip (cs.drop 0)) := rfl
@[simp] theorem FH47_0 (l k : Nat) : fieldAddrA T 47 (.hp l k) 0 = some (.hp l (k + 0)) := rfl
@[simp] theorem FA47_1 (cs : List AV) : fieldAddrA T 47 (.ip cs) 1 = some (.ip (cs.drop 1)) := rfl
@[simp] theorem FH47_1 (l k : Nat) : fieldAddrA T 47 (.hp l k) 1 = some (.hp l (k + 1)) := rfl
@[simp] theorem FA47_2 (cs : List AV) : fieldAddrA T 47 (.ip cs) 2 = some (.ip (cs.drop 2)) := rfl
@[simp] theorem FH47_2 (l k : Nat) : fieldAddrA T 47 (.hp l k) 2 = some (.hp l (k + 2)) := rfl
@[simp] theorem FA47_3 (cs : List AV) : fieldAddrA T 47 (.ip cs) 3 = some (.ip (cs.drop 3)) := rfl
@[simp] theorem FH47_3 (l k : Nat) : fieldAddrA T 47 (.hp l k) 3 = some (.hp l (k + 3)) := rfl
@[simp] theorem FA47_4 (cs : List AV) : fieldAddrA T 47 (.ip cs) 4 = some (.ip (cs.drop 4)) := rfl
@[simp] theorem FH47_4 (l k : Nat) : fieldAddrA T 47 (.hp l k) 4 = some (.hp l (k + 4)) := rfl
@[simp] theorem FA47_5 (cs : List AV) : fieldAddrA T 47 (.ip cs) 5 = some (.ip (cs.drop 5)) := rfl
@[simp] theorem FH47_5 (l k : Nat) : fieldAddrA T 47 (.hp l k) 5 = some (.hp l (k + 5)) := rfl
@[simp] theorem FA56_0 (cs : List AV) : fieldAddrA T 56 (.ip cs) 0 = some (.ip (cs.drop 0)) := rfl
@[simp] theorem FH56_0 (l k : Nat) : fieldAddrA T 56 (.hp l k) 0 = some (.hp l (k + 0)) := rfl
@[simp] theorem FA56_1 (cs : List AV) : fieldAddrA T 56 (.ip cs) 1 = some (.ip (cs.drop 1)) := rfl
@[simp] theorem FH56_1 (l k : Nat) : fieldAddrA T 56 (.hp l k) 1 = some (.hp l (k + 1)) := rfl
@[simp] theorem FA56_2 (cs : List AV) : fieldAddrA T 56 (.ip cs) 2 = some (.ip (cs.drop 2)) := rfl
@[simp] theorem FH56_2 (l k : Nat) : fieldAddrA T 56 (.hp l k) 2 = some (.hp l (k + 2)) := rfl
@[simp] theorem FA56_3 (cs : List AV) : fieldAddrA T 56 (.ip cs) 3 = some (.ip (cs.drop 4)) := rfl
@[simp] theorem FH56_3 (l k : Nat) : fieldAddrA T 56 (.hp l k) 3 = some (.hp l (k + 4)) := rfl
@[simp] theorem FA73_0 (cs : List AV) : fieldAddrA T 73 (.ip cs) 0 = some (.ip (cs.drop 0)) := rfl
@[simp] theorem FH73_0 (l k : Nat) : fieldAddrA T 73 (.hp l k) 0 = some (.hp l (k + 0)) := rfl
@[simp] theorem FA73_1 (cs : List AV) : fieldAddrA T 73 (.ip cs) 1 = some (.ip (cs.drop 1)) := rfl
@[simp] theorem FH73_1 (l k : Nat) : fieldAddrA T 73 (.hp l k) 1 = some (.hp l (k + 1)) := rfl
@[simp] theorem FA73_2 (cs : List AV) : fieldAddrA T 73 (.ip cs) 2 = some (.ip (cs.drop 2)) := rfl
@[simp] theorem FH73_2 (l k : Nat) : fieldAddrA T 73 (.hp l k) 2 = some (.hp l (k + 2)) := rfl
@[simp] theorem FA73_3 (cs : List AV) : fieldAddrA T 73 (.ip cs) 3 = some (.ip (cs.drop 3)) := rfl
@[simp] theorem FH73_3 (l k : Nat) : fieldAddrA T 73 (.hp l k) 3 = some (.hp l (k + 3)) := rfl
@[simp] theorem FA73_4 (cs : List AV) : fieldAddrA T 73 (.ip cs) 4 = some (.ip (cs.drop 5)) := rfl
@[simp] theorem FH73_4 (l k : Nat) : fieldAddrA T 73 (.hp l k) 4 = some (.hp l (k + 5)) := rfl
@[simp] theorem FA73_5 (cs : List AV) : fieldAddrA T 73 (.ip cs) 5 = some (.ip (cs.drop 6)) := rfl
@[simp] theorem FH73_5 (l k : Nat) : fieldAddrA T 73 (.hp l k) 5 = some (.hp l (k + 6)) := rfl
@[simp] theorem FA76_0 (cs : List AV) : fieldAddrA T 76 (.ip cs) 0 = some (.ip (cs.drop 0)) := rfl
@[simp] theorem FH76_0 (l k : Nat) : fieldAddrA T 76 (.hp l k) 0 = some (.hp l (k + 0)) := rfl
@[simp] theorem FA76_1 (cs : List AV) : fieldAddrA T 76 (.ip cs) 1 = some (.ip (cs.drop 1)) := rfl
@[simp] theorem FH76_1 (l k : Nat) : fieldAddrA T 76 (.hp l k) 1 = some (.hp l (k + 1)) := rfl
@[simp] theorem FA104_1 (cs : List AV) : fieldAddrA T 104 (.ip cs) 1 = some (.ip (cs.drop 1)) := rfl
@[simp] theorem FH104_1 (l k : Nat) : fieldAddrA T 104 (.hp l k) 1 = some (.hp l (k + 1)) := rfl
@[simp] theorem FA141_0 (cs : List AV) : fieldAddrA T 141 (.ip cs) 0 = some (.ip (cs.drop 0)) := rfl
@[simp] theorem FH141_0 (l k : Nat) : fieldAddrA T 141 (.hp l k) 0 = some (.hp l (k + 0)) := rfl
@[simp] theorem FA141_1 (cs : List AV) : fieldAddrA T 141 (.ip cs) 1 = some (.ip (cs.drop 9)) := rfl
@[simp] theorem FH141_1 (l k : Nat) : fieldAddrA T 141 (.hp l k) 1 = some (.hp l (k + 9)) := rfl
@[simp] theorem FA141_2 (cs : List AV) : fieldAddrA T 141 (.ip cs) 2 = some (.ip (cs.drop 10)) := rfl
@[simp] theorem FH141_2 (l k : Nat) : fieldAddrA T 141 (.hp l k) 2 = some (.hp l (k + 10)) := rfl
@[simp] theorem FA149_0 (cs : List AV) : fieldAddrA T 149 (.ip cs) 0 = some (.ip (cs.drop 0)) := rfl
@[simp] theorem FH149_0 (l k : Nat) : fieldAddrA T 149 (.hp l k) 0 = some (.hp l (k + 0)) := rfl
@[simp] theorem FA149_1 (cs : List AV) : fieldAddrA T 149 (.ip cs) 1 = some (.ip (cs.drop 2)) := rfl
@[simp] theorem FH149_1 (l k : Nat) : fieldAddrA T 149 (.hp l k) 1 = some (.hp l (k + 2)) := rfl
@[simp] theorem FA163_0 (cs : List AV) : fieldAddrA T 163 (.ip cs) 0 = some (.ip (cs.drop 0)) := rfl
@[simp] theorem FH163_0 (l k : Nat) : fieldAddrA T 163 (.hp l k) 0 = some (.hp l (k + 0)) := rfl
@[simp] theorem FA163_1 (cs : List AV) : fieldAddrA T 163 (.ip cs) 1 = some (.ip (cs.drop 1)) := rfl
@[simp] theorem FH163_1 (l k : Nat) : fieldAddrA T 163 (.hp l k) 1 = some (.hp l (k + 1)) := rfl
@[simp] theorem FA167_0 (cs : List AV) : fieldAddrA T 167 (.ip cs) 0 = some (.ip (cs.drop 0)) := rfl
@[simp] theorem FH167_0 (l k : Nat) : fieldAddrA T 167 (.hp l k) 0 = some (.hp l (k + 0)) := rfl
@[simp] theorem FA167_1 (cs : List AV) : fieldAddrA T 167 (.ip cs) 1 = some (.ip (cs.drop 1)) := rfl
@[simp] theorem FH167_1 (l k : Nat) : fieldAddrA T 167 (.hp l k) 1 = some (.hp l (k + 1)) := rfl
@[simp] theorem FA225_0 (cs : List AV) : fieldAddrA T 225 (.ip cs) 0 = some (.ip (cs.drop 0)) := rfl
@[simp] theorem FH225_0 (l k : Nat) : fieldAddrA T 225 (.hp l k) 0 = some (.hp l (k + 0)) := rfl
@[simp] theorem FA225_1 (cs : List AV) : fieldAddrA T 225 (.ip cs) 1 = some (.ip (cs.drop 1)) := rfl
@[simp] theorem FH225_1 (l k : Nat) : fieldAddrA T 225 (.hp l k) 1 = some (.hp l (k + 1)) := rfl
@[simp] theorem FA225_2 (cs : List AV) : fieldAddrA T 225 (.ip cs) 2 = some (.ip (cs.drop 2)) := rfl
@[simp] theorem FH225_2 (l k : Nat) : fieldAddrA T 225 (.hp l k) 2 = some (.hp l (k + 2)) := rfl
@[simp] theorem LD3 (x : AV) (l : List AV) : loadA T 3 (.ip (x :: l)) = some x := rfl
@[simp] theorem LD4 (x : AV) (l : List AV) : loadA T 4 (.ip (x :: l)) = some x := rfl
@[simp] theorem LD9 (x : AV) (l : List AV) : loadA T 9 (.ip (x :: l)) = some x := rfl
@[simp] theorem LD22 (x : AV) (l : List AV) : loadA T 22 (.ip (x :: l)) = some x := rfl
@[simp] theorem LD24 (cs : List AV) : loadA T 24 (.ip cs) = if 2 ≤ cs.length then some (.agg (cs.take 2)) else none := rfl
@[simp] theorem LD25 (x : AV) (l : List AV) : loadA T 25 (.ip (x :: l)) = some x := rfl
@[simp] theorem LD27 (cs : List AV) : loadA T 27 (.ip cs) = if 2 ≤ cs.length then some (.agg (cs.take 2)) else none := rfl
@[simp] theorem LD29 (cs : List AV) : loadA T 29 (.ip cs) = if 3 ≤ cs.length then some (.agg (cs.take 3)) else none := rfl
@[simp] theorem LD35 (x : AV) (l : List AV) : loadA T 35 (.ip (x :: l)) = some x := rfl
@[simp] theorem LD36 (x : AV) (l : List AV) : loadA T 36 (.ip (x :: l)) = some x := rfl
@[simp] theorem LD37 (x : AV) (l : List AV) : loadA T 37 (.ip (x :: l)) = some x := rfl
@[simp] theorem LD41 (cs : List AV) : loadA T 41 (.ip cs) = if 9 ≤ cs.length then some (.agg (cs.take 9)) else none := rfl
@[simp] theorem LD47 (cs : List AV) : loadA T 47 (.ip cs) = if 6 ≤ cs.length then some (.agg (cs.take 6)) else none := rfl
@[simp] theorem LD54 (x : AV) (l : List AV) : loadA T 54 (.ip (x :: l)) = some x := rfl
@[simp] theorem LD56 (cs : List AV) : loadA T 56 (.ip cs) = if 5 ≤ cs.length then some (.agg (cs.take 5)) else none := rfl
@[simp] theorem LD73 (cs : List AV) : loadA T 73 (.ip cs) = if 12 ≤ cs.length then some (.agg (cs.take 12)) else none := rfl
@[simp] theorem LD76 (cs : List AV) : loadA T 76 (.ip cs) = if 3 ≤ cs.length then some (.agg (cs.take 3)) else none := rfl
@[simp] theorem LD102 (x : AV) (l : List AV) : loadA T 102 (.ip (x :: l)) = some x := rfl
@[simp] theorem LD139 (x : AV) (l : List AV) : loadA T 139 (.ip (x :: l)) = some x := rfl
@[simp] theorem LD225 (cs : List AV) : loadA T 225 (.ip cs) = if 3 ≤ cs.length then some (.agg (cs.take 3)) else none := rfl
@[simp] theorem LEN9 (s : Str) : lenA T 9 (.str s) = some (.int .i64 s.length) := rfl
@[simp] theorem LEN22 (es : List AV) : lenA T 22 (.sl es) = some (.int .i64 es.length) := rfl
@[simp] theorem LENN22 : lenA T 22 .hn = some (.int .i64 0) := rfl
@[simp] theorem LENH22 (l k n s : Nat) (a : Bool) : lenA T 22 (.hs l k n s a) = some (.int .i64 n) := rfl
@[simp] theorem LENE22 (l : List Sig) : lenA T 22 (sigs l) = some (.int .i64 l.length) := (LEN22 _).trans (by simp)
@[simp] theorem LEN25 (es : List AV) : lenA T 25 (.sl es) = some (.int .i64 es.length) := rfl
@[simp] theorem LENN25 : lenA T 25 .hn = some (.int .i64 0) := rfl
@[simp] theorem LENH25 (l k n s : Nat) (a : Bool) : lenA T 25 (.hs l k n s a) = some (.int .i64 n) := rfl
@[simp] theorem LENE25 (l : List Fld) : lenA T 25 (flds l) = some (.int .i64 l.length) := (LEN25 _).trans (by simp [fldsAv_map])
@[simp] theorem LEN35 (es : List AV) : lenA T 35 (.sl es) = some (.int .i64 es.length) := rfl
@[simp] theorem LENN35 : lenA T 35 .hn = some (.int .i64 0) := rfl
@[simp] theorem LENH35 (l k n s : Nat) (a : Bool) : lenA T 35 (.hs l k n s a) = some (.int .i64 n) := rfl
@[simp] theorem LENE35 (l : List Str) : lenA T 35 (strs l) = some (.int .i64 l.length) := (LEN35 _).trans (by simp)
@[simp] theorem LEN36 (es : List AV) : lenA T 36 (.sl es) = some (.int .i64 es.length) := rfl
@[simp] theorem LENN36 : lenA T 36 .hn = some (.int .i64 0) := rfl
@[simp] theorem LENH36 (l k n s : Nat) (a : Bool) : lenA T 36 (.hs l k n s a) = some (.int .i64 n) := rfl
@[simp] theorem LENE36 (l : List Exp) : lenA T 36 (exps l) = some (.int .i64 l.length) := (LEN36 _).trans (by simp [expsAv_map])
@[simp] theorem LEN37 (es : List AV) : lenA T 37 (.sl es) = some (.int .i64 es.length) := rfl
@[simp] theorem LENN37 : lenA T 37 .hn = some (.int .i64 0) := rfl
@[simp] theorem LENH37 (l k n s : Nat) (a : Bool) : lenA T 37 (.hs l k n s a) = some (.int .i64 n) := rfl
@[simp] theorem LENE37 (l : List Fun) : lenA T 37 (funs l) = some (.int .i64 l.length) := (LEN37 _).trans (by simp)
@[simp] theorem LEN54 (es : List AV) : lenA T 54 (.sl es) = some (.int .i64 es.length) := rfl
@[simp] theorem LENN54 : lenA T 54 .hn = some (.int .i64 0) := rfl
@[simp] theorem LENH54 (l k n s : Nat) (a : Bool) : lenA T 54 (.hs l k n s a) = some (.int .i64 n) := rfl
@[simp] theorem LENE54 (l : List Ty) : lenA T 54 (tys l) = some (.int .i64 l.length) := (LEN54 _).trans (by simp)
@[simp] theorem LEN78 (es : List AV) : lenA T 78 (.sl es) = some (.int .i64 es.length) := rfl
@[simp] theorem LENN78 : lenA T 78 .hn = some (.int .i64 0) := rfl
@[simp] theorem LENH78 (l k n s : Nat) (a : Bool) : lenA T 78 (.hs l k n s a) = some (.int .i64 n) := rfl
@[simp] theorem LENE78 (l : List Face) : lenA T 78 (faces l) = some (.int .i64 l.length) := (LEN78 _).trans (by simp)
@[simp] theorem LEN102 (es : List AV) : lenA T 102 (.sl es) = some (.int .i64 es.length) := rfl
@[simp] theorem LENN102 : lenA T 102 .hn = some (.int .i64 0) := rfl
@[simp] theorem LENH102 (l k n s : Nat) (a : Bool) : lenA T 102 (.hs l k n s a) = some (.int .i64 n) := rfl
@[simp] theorem LEN196 (es : List AV) : lenA T 196 (.sl es) = some (.int .i64 es.length) := rfl
@[simp] theorem LENN196 : lenA T 196 .hn = some (.int .i64 0) := rfl
@[simp] theorem LENH196 (l k n s : Nat) (a : Bool) : lenA T 196 (.hs l k n s a) = some (.int .i64 n) := rfl
@[simp] theorem LENE196 (l : List Int) : lenA T 196 (ints l) = some (.int .i64 l.length) := (LEN196 _).trans (by simp)
@[simp] theorem LEN222 (es : List AV) : lenA T 222 (.sl es) = some (.int .i64 es.length) := rfl
@[simp] theorem LENN222 : lenA T 222 .hn = some (.int .i64 0) := rfl
@[simp] theorem LENH222 (l k n s : Nat) (a : Bool) : lenA T 222 (.hs l k n s a) = some (.int .i64 n) := rfl
theorem IX22 {l : List Sig} {n : Int} (h0 : 0 ≤ n) (h : n < (l.length : Int)) : indexAddrA T 22 (sigs l) (.int .i64 n) = some (.ip (acells (Sig.av l[n.toNat]!))) := indexAddrA_int (T := T) (t := 22) (e := 56) rfl rfl rfl (fun _ => by first | rfl | (simp; done) | (simp; rfl)) h0 h
theorem IX25 {l : List Fld} {n : Int} (h0 : 0 ≤ n) (h : n < (l.length : Int)) : indexAddrA T 25 (flds l) (.int .i64 n) = some (.ip (acells (fldAv l[n.toNat]!))) := by rw [flds, fldsAv_map]; exact indexAddrA_int (T := T) (t := 25) (e := 76) rfl rfl rfl (fun _ => by first | rfl | (simp; done) | (simp; rfl)) h0 h
theorem IX35 {l : List Str} {n : Int} (h0 : 0 ≤ n) (h : n < (l.length : Int)) : indexAddrA T 35 (strs l) (.int .i64 n) = some (.ip (acells (AV.str l[n.toNat]!))) := indexAddrA_int (T := T) (t := 35) (e := 9) rfl rfl rfl (fun _ => by first | rfl | (simp; done) | (simp; rfl)) h0 h
theorem IX36 {l : List Exp} {n : Int} (h0 : 0 ≤ n) (h : n < (l.length : Int)) : indexAddrA T 36 (exps l) (.int .i64 n) = some (.ip (acells (Exp.av l[n.toNat]!))) := by rw [exps, expsAv_map]; exact indexAddrA_int (T := T) (t := 36) (e := 47) rfl rfl rfl (fun _ => by first | rfl | (simp; done) | (simp; rfl)) h0 h
theorem IX37 {l : List Fun} {n : Int} (h0 : 0 ≤ n) (h : n < (l.length : Int)) : indexAddrA T 37 (funs l) (.int .i64 n) = some (.ip (acells (Fun.av l[n.toNat]!))) := indexAddrA_int (T := T) (t := 37) (e := 73) rfl rfl rfl (fun _ => by first | rfl | (simp; done) | (simp; rfl)) h0 h
theorem IX54 {l : List Ty} {n : Int} (h0 : 0 ≤ n) (h : n < (l.length : Int)) : indexAddrA T 54 (tys l) (.int .i64 n) = some (.ip (acells (Ty.av l[n.toNat]!))) := indexAddrA_int (T := T) (t := 54) (e := 27) rfl rfl rfl (fun _ => by first | rfl | (simp; done) | (simp; rfl)) h0 h
theorem AP35 {a b : List Str} (h : (a.length + b.length) * 16 ≤ 140737488355328) : appA T 35 (strs a) (strs b) = some (strs (a ++ b)) := by
  have := appA_map (T := T) (t := 35) (e := 9) rfl rfl rfl (f := AV.str) (fun _ => by first | rfl | (simp; done) | (simp; rfl)) (a := a) (b := b) h (by decide)
  simpa [strs] using this
theorem AP36 {a b : List Exp} (h : (a.length + b.length) * 96 ≤ 140737488355328) : appA T 36 (exps a) (exps b) = some (exps (a ++ b)) := by
  have := appA_map (T := T) (t := 36) (e := 47) rfl rfl rfl (f := Exp.av) (fun _ => by first | rfl | (simp; done) | (simp; rfl)) (a := a) (b := b) h (by decide)
  simpa [exps, expsAv_map] using this
end Go.Proofs.YteemeakjlfnapaaGreatDoor
