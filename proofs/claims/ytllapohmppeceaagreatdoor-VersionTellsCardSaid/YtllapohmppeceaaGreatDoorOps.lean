/- What the operations do with values of the package api: written by a program. No condition. -/
import Derived.Test.YtllapohmppeceaaGreatDoorAnn
import Derived.Test.YtllapohmppeceaaGreatDoorTy
namespace Go.Proofs.YtllapohmppeceaaGreatDoor
open Go Go.Av Go.Av.Ap
set_option maxRecDepth 100000
@[simp] theorem FA23_0 (cs : List AV) : fieldAddrA T 23 (.ip cs) 0 = some (.ip (cs.drop 0)) := rfl
@[simp] theorem FH23_0 (l k : Nat) : fieldAddrA T 23 (.hp l k) 0 = some (.hp l (k + 0)) := rfl
@[simp] theorem FA23_1 (cs : List AV) : fieldAddrA T 23 (.ip cs) 1 = some (.ip (cs.drop 1)) := rfl
@[simp] theorem FH23_1 (l k : Nat) : fieldAddrA T 23 (.hp l k) 1 = some (.hp l (k + 1)) := rfl
@[simp] theorem FA23_2 (cs : List AV) : fieldAddrA T 23 (.ip cs) 2 = some (.ip (cs.drop 2)) := rfl
@[simp] theorem FH23_2 (l k : Nat) : fieldAddrA T 23 (.hp l k) 2 = some (.hp l (k + 2)) := rfl
@[simp] theorem FA40_0 (cs : List AV) : fieldAddrA T 40 (.ip cs) 0 = some (.ip (cs.drop 0)) := rfl
@[simp] theorem FH40_0 (l k : Nat) : fieldAddrA T 40 (.hp l k) 0 = some (.hp l (k + 0)) := rfl
@[simp] theorem FA40_1 (cs : List AV) : fieldAddrA T 40 (.ip cs) 1 = some (.ip (cs.drop 3)) := rfl
@[simp] theorem FH40_1 (l k : Nat) : fieldAddrA T 40 (.hp l k) 1 = some (.hp l (k + 3)) := rfl
@[simp] theorem LD3 (x : AV) (l : List AV) : loadA T 3 (.ip (x :: l)) = some x := rfl
@[simp] theorem LD9 (x : AV) (l : List AV) : loadA T 9 (.ip (x :: l)) = some x := rfl
@[simp] theorem LD23 (cs : List AV) : loadA T 23 (.ip cs) = if 3 ≤ cs.length then some (.agg (cs.take 3)) else none := rfl
@[simp] theorem LD24 (x : AV) (l : List AV) : loadA T 24 (.ip (x :: l)) = some x := rfl
@[simp] theorem LD40 (cs : List AV) : loadA T 40 (.ip cs) = if 6 ≤ cs.length then some (.agg (cs.take 6)) else none := rfl
@[simp] theorem LEN9 (s : Str) : lenA T 9 (.str s) = some (.int .i64 s.length) := rfl
@[simp] theorem LEN24 (es : List AV) : lenA T 24 (.sl es) = some (.int .i64 es.length) := rfl
@[simp] theorem LENN24 : lenA T 24 .hn = some (.int .i64 0) := rfl
@[simp] theorem LENH24 (l k n s : Nat) (a : Bool) : lenA T 24 (.hs l k n s a) = some (.int .i64 n) := rfl
@[simp] theorem LENE24 (l : List Rng) : lenA T 24 (rngs l) = some (.int .i64 l.length) := (LEN24 _).trans (by simp)
@[simp] theorem LEN25 (es : List AV) : lenA T 25 (.sl es) = some (.int .i64 es.length) := rfl
@[simp] theorem LENN25 : lenA T 25 .hn = some (.int .i64 0) := rfl
@[simp] theorem LENH25 (l k n s : Nat) (a : Bool) : lenA T 25 (.hs l k n s a) = some (.int .i64 n) := rfl
@[simp] theorem LENE25 (l : List Ver) : lenA T 25 (vers l) = some (.int .i64 l.length) := (LEN25 _).trans (by simp)
@[simp] theorem LEN43 (es : List AV) : lenA T 43 (.sl es) = some (.int .i64 es.length) := rfl
@[simp] theorem LENN43 : lenA T 43 .hn = some (.int .i64 0) := rfl
@[simp] theorem LENH43 (l k n s : Nat) (a : Bool) : lenA T 43 (.hs l k n s a) = some (.int .i64 n) := rfl
@[simp] theorem LENE43 (l : List Str) : lenA T 43 (strs l) = some (.int .i64 l.length) := (LEN43 _).trans (by simp)
@[simp] theorem LEN51 (es : List AV) : lenA T 51 (.sl es) = some (.int .i64 es.length) := rfl
@[simp] theorem LENN51 : lenA T 51 .hn = some (.int .i64 0) := rfl
@[simp] theorem LENH51 (l k n s : Nat) (a : Bool) : lenA T 51 (.hs l k n s a) = some (.int .i64 n) := rfl
@[simp] theorem LENE51 (l : List Int) : lenA T 51 (ints l) = some (.int .i64 l.length) := (LEN51 _).trans (by simp)
@[simp] theorem LEN71 (es : List AV) : lenA T 71 (.sl es) = some (.int .i64 es.length) := rfl
@[simp] theorem LENN71 : lenA T 71 .hn = some (.int .i64 0) := rfl
@[simp] theorem LENH71 (l k n s : Nat) (a : Bool) : lenA T 71 (.hs l k n s a) = some (.int .i64 n) := rfl
theorem IX24 {l : List Rng} {n : Int} (h0 : 0 ≤ n) (h : n < (l.length : Int)) : indexAddrA T 24 (rngs l) (.int .i64 n) = some (.ip (acells (Rng.av l[n.toNat]!))) := indexAddrA_int (T := T) (t := 24) (e := 40) rfl rfl rfl (fun _ => by first | rfl | (simp; done) | (simp; rfl)) h0 h
theorem IX25 {l : List Ver} {n : Int} (h0 : 0 ≤ n) (h : n < (l.length : Int)) : indexAddrA T 25 (vers l) (.int .i64 n) = some (.ip (acells (Ver.av l[n.toNat]!))) := indexAddrA_int (T := T) (t := 25) (e := 23) rfl rfl rfl (fun _ => by first | rfl | (simp; done) | (simp; rfl)) h0 h
theorem IX43 {l : List Str} {n : Int} (h0 : 0 ≤ n) (h : n < (l.length : Int)) : indexAddrA T 43 (strs l) (.int .i64 n) = some (.ip (acells (AV.str l[n.toNat]!))) := indexAddrA_int (T := T) (t := 43) (e := 9) rfl rfl rfl (fun _ => by first | rfl | (simp; done) | (simp; rfl)) h0 h
theorem IX51 {l : List Int} {n : Int} (h0 : 0 ≤ n) (h : n < (l.length : Int)) : indexAddrA T 51 (ints l) (.int .i64 n) = some (.ip (acells (AV.int .i64 l[n.toNat]!))) := indexAddrA_int (T := T) (t := 51) (e := 3) rfl rfl rfl (fun _ => by first | rfl | (simp; done) | (simp; rfl)) h0 h
theorem AP24 {a b : List Rng} (h : (a.length + b.length) * 48 ≤ 140737488355328) : appA T 24 (rngs a) (rngs b) = some (rngs (a ++ b)) := by
  have := appA_map (T := T) (t := 24) (e := 40) rfl rfl rfl (f := Rng.av) (fun _ => by first | rfl | (simp; done) | (simp; rfl)) (a := a) (b := b) h (by decide)
  simpa [rngs] using this
end Go.Proofs.YtllapohmppeceaaGreatDoor
