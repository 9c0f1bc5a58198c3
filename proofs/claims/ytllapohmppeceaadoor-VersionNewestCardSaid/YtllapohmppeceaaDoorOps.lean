/- What the operations do with values of the package api: written by a program. No condition. -/
import Derived.Test.YtllapohmppeceaaDoorAnn
import Derived.Test.YtllapohmppeceaaDoorTy
namespace Go.Proofs.YtllapohmppeceaaDoor
open Go Go.Av Go.Av.Ap
set_option maxRecDepth 100000
@[simp] theorem FA23_0 (cs : List AV) : fieldAddrA T 23 (.ip cs) 0 = some (.ip (cs.drop 0)) := rfl
@[simp] theorem FH23_0 (l k : Nat) : fieldAddrA T 23 (.hp l k) 0 = some (.hp l (k + 0)) := rfl
@[simp] theorem FA23_1 (cs : List AV) : fieldAddrA T 23 (.ip cs) 1 = some (.ip (cs.drop 1)) := rfl
@[simp] theorem FH23_1 (l k : Nat) : fieldAddrA T 23 (.hp l k) 1 = some (.hp l (k + 1)) := rfl
@[simp] theorem FA23_2 (cs : List AV) : fieldAddrA T 23 (.ip cs) 2 = some (.ip (cs.drop 2)) := rfl
@[simp] theorem FH23_2 (l k : Nat) : fieldAddrA T 23 (.hp l k) 2 = some (.hp l (k + 2)) := rfl
@[simp] theorem FA38_0 (cs : List AV) : fieldAddrA T 38 (.ip cs) 0 = some (.ip (cs.drop 0)) := rfl
@[simp] theorem FH38_0 (l k : Nat) : fieldAddrA T 38 (.hp l k) 0 = some (.hp l (k + 0)) := rfl
@[simp] theorem FA38_1 (cs : List AV) : fieldAddrA T 38 (.ip cs) 1 = some (.ip (cs.drop 3)) := rfl
@[simp] theorem FH38_1 (l k : Nat) : fieldAddrA T 38 (.hp l k) 1 = some (.hp l (k + 3)) := rfl
@[simp] theorem LD3 (x : AV) (l : List AV) : loadA T 3 (.ip (x :: l)) = some x := rfl
@[simp] theorem LD9 (x : AV) (l : List AV) : loadA T 9 (.ip (x :: l)) = some x := rfl
@[simp] theorem LD23 (cs : List AV) : loadA T 23 (.ip cs) = if 3 ≤ cs.length then some (.agg (cs.take 3)) else none := rfl
@[simp] theorem LD32 (x : AV) (l : List AV) : loadA T 32 (.ip (x :: l)) = some x := rfl
@[simp] theorem LD38 (cs : List AV) : loadA T 38 (.ip cs) = if 6 ≤ cs.length then some (.agg (cs.take 6)) else none := rfl
@[simp] theorem LEN9 (s : Str) : lenA T 9 (.str s) = some (.int .i64 s.length) := rfl
@[simp] theorem LEN32 (es : List AV) : lenA T 32 (.sl es) = some (.int .i64 es.length) := rfl
@[simp] theorem LENN32 : lenA T 32 .hn = some (.int .i64 0) := rfl
@[simp] theorem LENH32 (l k n s : Nat) (a : Bool) : lenA T 32 (.hs l k n s a) = some (.int .i64 n) := rfl
@[simp] theorem LENE32 (l : List Rng) : lenA T 32 (rngs l) = some (.int .i64 l.length) := (LEN32 _).trans (by simp)
@[simp] theorem LEN42 (es : List AV) : lenA T 42 (.sl es) = some (.int .i64 es.length) := rfl
@[simp] theorem LENN42 : lenA T 42 .hn = some (.int .i64 0) := rfl
@[simp] theorem LENH42 (l k n s : Nat) (a : Bool) : lenA T 42 (.hs l k n s a) = some (.int .i64 n) := rfl
@[simp] theorem LENE42 (l : List Ver) : lenA T 42 (vers l) = some (.int .i64 l.length) := (LEN42 _).trans (by simp)
@[simp] theorem LEN48 (es : List AV) : lenA T 48 (.sl es) = some (.int .i64 es.length) := rfl
@[simp] theorem LENN48 : lenA T 48 .hn = some (.int .i64 0) := rfl
@[simp] theorem LENH48 (l k n s : Nat) (a : Bool) : lenA T 48 (.hs l k n s a) = some (.int .i64 n) := rfl
@[simp] theorem LENE48 (l : List Str) : lenA T 48 (strs l) = some (.int .i64 l.length) := (LEN48 _).trans (by simp)
@[simp] theorem LEN67 (es : List AV) : lenA T 67 (.sl es) = some (.int .i64 es.length) := rfl
@[simp] theorem LENN67 : lenA T 67 .hn = some (.int .i64 0) := rfl
@[simp] theorem LENH67 (l k n s : Nat) (a : Bool) : lenA T 67 (.hs l k n s a) = some (.int .i64 n) := rfl
@[simp] theorem LENE67 (l : List Int) : lenA T 67 (ints l) = some (.int .i64 l.length) := (LEN67 _).trans (by simp)
@[simp] theorem LEN73 (es : List AV) : lenA T 73 (.sl es) = some (.int .i64 es.length) := rfl
@[simp] theorem LENN73 : lenA T 73 .hn = some (.int .i64 0) := rfl
@[simp] theorem LENH73 (l k n s : Nat) (a : Bool) : lenA T 73 (.hs l k n s a) = some (.int .i64 n) := rfl
theorem IX32 {l : List Rng} {n : Int} (h0 : 0 ≤ n) (h : n < (l.length : Int)) : indexAddrA T 32 (rngs l) (.int .i64 n) = some (.ip (acells (Rng.av l[n.toNat]!))) := indexAddrA_int (T := T) (t := 32) (e := 38) rfl rfl rfl (fun _ => by first | rfl | (simp; done) | (simp; rfl)) h0 h
theorem IX42 {l : List Ver} {n : Int} (h0 : 0 ≤ n) (h : n < (l.length : Int)) : indexAddrA T 42 (vers l) (.int .i64 n) = some (.ip (acells (Ver.av l[n.toNat]!))) := indexAddrA_int (T := T) (t := 42) (e := 23) rfl rfl rfl (fun _ => by first | rfl | (simp; done) | (simp; rfl)) h0 h
theorem IX48 {l : List Str} {n : Int} (h0 : 0 ≤ n) (h : n < (l.length : Int)) : indexAddrA T 48 (strs l) (.int .i64 n) = some (.ip (acells (AV.str l[n.toNat]!))) := indexAddrA_int (T := T) (t := 48) (e := 9) rfl rfl rfl (fun _ => by first | rfl | (simp; done) | (simp; rfl)) h0 h
theorem IX67 {l : List Int} {n : Int} (h0 : 0 ≤ n) (h : n < (l.length : Int)) : indexAddrA T 67 (ints l) (.int .i64 n) = some (.ip (acells (AV.int .i64 l[n.toNat]!))) := indexAddrA_int (T := T) (t := 67) (e := 3) rfl rfl rfl (fun _ => by first | rfl | (simp; done) | (simp; rfl)) h0 h
theorem AP32 {a b : List Rng} (h : (a.length + b.length) * 48 ≤ 140737488355328) : appA T 32 (rngs a) (rngs b) = some (rngs (a ++ b)) := by
  have := appA_map (T := T) (t := 32) (e := 38) rfl rfl rfl (f := Rng.av) (fun _ => by first | rfl | (simp; done) | (simp; rfl)) (a := a) (b := b) h (by decide)
  simpa [rngs] using this
theorem AP42 {a b : List Ver} (h : (a.length + b.length) * 24 ≤ 140737488355328) : appA T 42 (vers a) (vers b) = some (vers (a ++ b)) := by
  have := appA_map (T := T) (t := 42) (e := 23) rfl rfl rfl (f := Ver.av) (fun _ => by first | rfl | (simp; done) | (simp; rfl)) (a := a) (b := b) h (by decide)
  simpa [vers] using this
end Go.Proofs.YtllapohmppeceaaDoor
