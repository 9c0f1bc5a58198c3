/- What the operations do with values of the package api: written by a program. No condition. -/
import Derived.Test.YtpnonheegflllaaAnn
import Derived.Test.YtpnonheegflllaaLd
namespace Go.Proofs.Ytpnonheegflllaa
open Go Go.Av Go.Av.Ap
set_option maxRecDepth 100000
@[simp] theorem FA24_0 (cs : List AV) : fieldAddrA T 24 (.ip cs) 0 = some (.ip (cs.drop 0)) := rfl
@[simp] theorem FH24_0 (l k : Nat) : fieldAddrA T 24 (.hp l k) 0 = some (.hp l (k + 0)) := rfl
@[simp] theorem FA24_1 (cs : List AV) : fieldAddrA T 24 (.ip cs) 1 = some (.ip (cs.drop 1)) := rfl
@[simp] theorem FH24_1 (l k : Nat) : fieldAddrA T 24 (.hp l k) 1 = some (.hp l (k + 1)) := rfl
@[simp] theorem FA40_0 (cs : List AV) : fieldAddrA T 40 (.ip cs) 0 = some (.ip (cs.drop 0)) := rfl
@[simp] theorem FH40_0 (l k : Nat) : fieldAddrA T 40 (.hp l k) 0 = some (.hp l (k + 0)) := rfl
@[simp] theorem FA40_1 (cs : List AV) : fieldAddrA T 40 (.ip cs) 1 = some (.ip (cs.drop 1)) := rfl
@[simp] theorem FH40_1 (l k : Nat) : fieldAddrA T 40 (.hp l k) 1 = some (.hp l (k + 1)) := rfl
@[simp] theorem FA40_2 (cs : List AV) : fieldAddrA T 40 (.ip cs) 2 = some (.ip (cs.drop 2)) := rfl
@[simp] theorem FH40_2 (l k : Nat) : fieldAddrA T 40 (.hp l k) 2 = some (.hp l (k + 2)) := rfl
@[simp] theorem FA42_0 (cs : List AV) : fieldAddrA T 42 (.ip cs) 0 = some (.ip (cs.drop 0)) := rfl
@[simp] theorem FH42_0 (l k : Nat) : fieldAddrA T 42 (.hp l k) 0 = some (.hp l (k + 0)) := rfl
@[simp] theorem FA42_1 (cs : List AV) : fieldAddrA T 42 (.ip cs) 1 = some (.ip (cs.drop 1)) := rfl
@[simp] theorem FH42_1 (l k : Nat) : fieldAddrA T 42 (.hp l k) 1 = some (.hp l (k + 1)) := rfl
@[simp] theorem FA42_2 (cs : List AV) : fieldAddrA T 42 (.ip cs) 2 = some (.ip (cs.drop 2)) := rfl
@[simp] theorem FH42_2 (l k : Nat) : fieldAddrA T 42 (.hp l k) 2 = some (.hp l (k + 2)) := rfl
@[simp] theorem FA42_3 (cs : List AV) : fieldAddrA T 42 (.ip cs) 3 = some (.ip (cs.drop 3)) := rfl
@[simp] theorem FH42_3 (l k : Nat) : fieldAddrA T 42 (.hp l k) 3 = some (.hp l (k + 3)) := rfl
@[simp] theorem FA42_4 (cs : List AV) : fieldAddrA T 42 (.ip cs) 4 = some (.ip (cs.drop 4)) := rfl
@[simp] theorem FH42_4 (l k : Nat) : fieldAddrA T 42 (.hp l k) 4 = some (.hp l (k + 4)) := rfl
@[simp] theorem FA42_6 (cs : List AV) : fieldAddrA T 42 (.ip cs) 6 = some (.ip (cs.drop 6)) := rfl
@[simp] theorem FH42_6 (l k : Nat) : fieldAddrA T 42 (.hp l k) 6 = some (.hp l (k + 6)) := rfl
@[simp] theorem FA44_1 (cs : List AV) : fieldAddrA T 44 (.ip cs) 1 = some (.ip (cs.drop 1)) := rfl
@[simp] theorem FH44_1 (l k : Nat) : fieldAddrA T 44 (.hp l k) 1 = some (.hp l (k + 1)) := rfl
@[simp] theorem FA46_0 (cs : List AV) : fieldAddrA T 46 (.ip cs) 0 = some (.ip (cs.drop 0)) := rfl
@[simp] theorem FH46_0 (l k : Nat) : fieldAddrA T 46 (.hp l k) 0 = some (.hp l (k + 0)) := rfl
@[simp] theorem FA46_1 (cs : List AV) : fieldAddrA T 46 (.ip cs) 1 = some (.ip (cs.drop 1)) := rfl
@[simp] theorem FH46_1 (l k : Nat) : fieldAddrA T 46 (.hp l k) 1 = some (.hp l (k + 1)) := rfl
@[simp] theorem FA46_2 (cs : List AV) : fieldAddrA T 46 (.ip cs) 2 = some (.ip (cs.drop 2)) := rfl
@[simp] theorem FH46_2 (l k : Nat) : fieldAddrA T 46 (.hp l k) 2 = some (.hp l (k + 2)) := rfl
@[simp] theorem FA46_3 (cs : List AV) : fieldAddrA T 46 (.ip cs) 3 = some (.ip (cs.drop 3)) := rfl
@[simp] theorem FH46_3 (l k : Nat) : fieldAddrA T 46 (.hp l k) 3 = some (.hp l (k + 3)) := rfl
@[simp] theorem FA46_4 (cs : List AV) : fieldAddrA T 46 (.ip cs) 4 = some (.ip (cs.drop 4)) := rfl
@[simp] theorem FH46_4 (l k : Nat) : fieldAddrA T 46 (.hp l k) 4 = some (.hp l (k + 4)) := rfl
@[simp] theorem FA46_5 (cs : List AV) : fieldAddrA T 46 (.ip cs) 5 = some (.ip (cs.drop 5)) := rfl
@[simp] theorem FH46_5 (l k : Nat) : fieldAddrA T 46 (.hp l k) 5 = some (.hp l (k + 5)) := rfl
@[simp] theorem FA48_0 (cs : List AV) : fieldAddrA T 48 (.ip cs) 0 = some (.ip (cs.drop 0)) := rfl
@[simp] theorem FH48_0 (l k : Nat) : fieldAddrA T 48 (.hp l k) 0 = some (.hp l (k + 0)) := rfl
@[simp] theorem FA48_1 (cs : List AV) : fieldAddrA T 48 (.ip cs) 1 = some (.ip (cs.drop 1)) := rfl
@[simp] theorem FH48_1 (l k : Nat) : fieldAddrA T 48 (.hp l k) 1 = some (.hp l (k + 1)) := rfl
@[simp] theorem FA48_2 (cs : List AV) : fieldAddrA T 48 (.ip cs) 2 = some (.ip (cs.drop 2)) := rfl
@[simp] theorem FH48_2 (l k : Nat) : fieldAddrA T 48 (.hp l k) 2 = some (.hp l (k + 2)) := rfl
@[simp] theorem FA48_3 (cs : List AV) : fieldAddrA T 48 (.ip cs) 3 = some (.ip (cs.drop 3)) := rfl
@[simp] theorem FH48_3 (l k : Nat) : fieldAddrA T 48 (.hp l k) 3 = some (.hp l (k + 3)) := rfl
@[simp] theorem FA48_5 (cs : List AV) : fieldAddrA T 48 (.ip cs) 5 = some (.ip (cs.drop 6)) := rfl
@[simp] theorem FH48_5 (l k : Nat) : fieldAddrA T 48 (.hp l k) 5 = some (.hp l (k + 6)) := rfl
@[simp] theorem FA78_1 (cs : List AV) : fieldAddrA T 78 (.ip cs) 1 = some (.ip (cs.drop 1)) := rfl
@[simp] theorem FH78_1 (l k : Nat) : fieldAddrA T 78 (.hp l k) 1 = some (.hp l (k + 1)) := rfl
@[simp] theorem LD3 (x : AV) (l : List AV) : loadA T 3 (.ip (x :: l)) = some x := rfl
@[simp] theorem LD4 (x : AV) (l : List AV) : loadA T 4 (.ip (x :: l)) = some x := rfl
@[simp] theorem LD9 (x : AV) (l : List AV) : loadA T 9 (.ip (x :: l)) = some x := rfl
@[simp] theorem LD24 (cs : List AV) : loadA T 24 (.ip cs) = if 2 ≤ cs.length then some (.agg (cs.take 2)) else none := rfl
@[simp] theorem LD27 (x : AV) (l : List AV) : loadA T 27 (.ip (x :: l)) = some x := rfl
@[simp] theorem LD35 (x : AV) (l : List AV) : loadA T 35 (.ip (x :: l)) = some x := rfl
@[simp] theorem LD36 (x : AV) (l : List AV) : loadA T 36 (.ip (x :: l)) = some x := rfl
@[simp] theorem LD37 (x : AV) (l : List AV) : loadA T 37 (.ip (x :: l)) = some x := rfl
@[simp] theorem LD38 (x : AV) (l : List AV) : loadA T 38 (.ip (x :: l)) = some x := rfl
@[simp] theorem LD42 (cs : List AV) : loadA T 42 (.ip cs) = if 9 ≤ cs.length then some (.agg (cs.take 9)) else none := rfl
@[simp] theorem LD44 (cs : List AV) : loadA T 44 (.ip cs) = if 2 ≤ cs.length then some (.agg (cs.take 2)) else none := rfl
@[simp] theorem LD46 (cs : List AV) : loadA T 46 (.ip cs) = if 6 ≤ cs.length then some (.agg (cs.take 6)) else none := rfl
@[simp] theorem LD48 (cs : List AV) : loadA T 48 (.ip cs) = if 12 ≤ cs.length then some (.agg (cs.take 12)) else none := rfl
@[simp] theorem LD54 (x : AV) (l : List AV) : loadA T 54 (.ip (x :: l)) = some x := rfl
@[simp] theorem LD56 (x : AV) (l : List AV) : loadA T 56 (.ip (x :: l)) = some x := rfl
@[simp] theorem LD83 (x : AV) (l : List AV) : loadA T 83 (.ip (x :: l)) = some x := rfl
@[simp] theorem LEN22 (es : List AV) : lenA T 22 (.sl es) = some (.int .i64 es.length) := rfl
@[simp] theorem LENN22 : lenA T 22 .hn = some (.int .i64 0) := rfl
@[simp] theorem LENH22 (l k n s : Nat) (a : Bool) : lenA T 22 (.hs l k n s a) = some (.int .i64 n) := rfl
@[simp] theorem LENE22 (l : List Mod) : lenA T 22 (mods l) = some (.int .i64 l.length) := (LEN22 _).trans (by simp)
@[simp] theorem LEN27 (es : List AV) : lenA T 27 (.sl es) = some (.int .i64 es.length) := rfl
@[simp] theorem LENN27 : lenA T 27 .hn = some (.int .i64 0) := rfl
@[simp] theorem LENH27 (l k n s : Nat) (a : Bool) : lenA T 27 (.hs l k n s a) = some (.int .i64 n) := rfl
@[simp] theorem LENE27 (l : List Ref) : lenA T 27 (refsA l) = some (.int .i64 l.length) := (LEN27 _).trans (by simp)
@[simp] theorem LEN35 (es : List AV) : lenA T 35 (.sl es) = some (.int .i64 es.length) := rfl
@[simp] theorem LENN35 : lenA T 35 .hn = some (.int .i64 0) := rfl
@[simp] theorem LENH35 (l k n s : Nat) (a : Bool) : lenA T 35 (.hs l k n s a) = some (.int .i64 n) := rfl
@[simp] theorem LENE35 (l : List Str) : lenA T 35 (strs l) = some (.int .i64 l.length) := (LEN35 _).trans (by simp)
@[simp] theorem LEN36 (es : List AV) : lenA T 36 (.sl es) = some (.int .i64 es.length) := rfl
@[simp] theorem LENN36 : lenA T 36 .hn = some (.int .i64 0) := rfl
@[simp] theorem LENH36 (l k n s : Nat) (a : Bool) : lenA T 36 (.hs l k n s a) = some (.int .i64 n) := rfl
@[simp] theorem LENE36 (l : List Fld) : lenA T 36 (flds l) = some (.int .i64 l.length) := (LEN36 _).trans (by simp [fldsAv_map])
@[simp] theorem LEN37 (es : List AV) : lenA T 37 (.sl es) = some (.int .i64 es.length) := rfl
@[simp] theorem LENN37 : lenA T 37 .hn = some (.int .i64 0) := rfl
@[simp] theorem LENH37 (l k n s : Nat) (a : Bool) : lenA T 37 (.hs l k n s a) = some (.int .i64 n) := rfl
@[simp] theorem LENE37 (l : List Exp) : lenA T 37 (exps l) = some (.int .i64 l.length) := (LEN37 _).trans (by simp [expsAv_map])
@[simp] theorem LEN38 (es : List AV) : lenA T 38 (.sl es) = some (.int .i64 es.length) := rfl
@[simp] theorem LENN38 : lenA T 38 .hn = some (.int .i64 0) := rfl
@[simp] theorem LENH38 (l k n s : Nat) (a : Bool) : lenA T 38 (.hs l k n s a) = some (.int .i64 n) := rfl
@[simp] theorem LENE38 (l : List Fun) : lenA T 38 (funs l) = some (.int .i64 l.length) := (LEN38 _).trans (by simp)
@[simp] theorem LEN62 (es : List AV) : lenA T 62 (.sl es) = some (.int .i64 es.length) := rfl
@[simp] theorem LENN62 : lenA T 62 .hn = some (.int .i64 0) := rfl
@[simp] theorem LENH62 (l k n s : Nat) (a : Bool) : lenA T 62 (.hs l k n s a) = some (.int .i64 n) := rfl
@[simp] theorem LENE62 (l : List (List Ref)) : lenA T 62 (refssA l) = some (.int .i64 l.length) := (LEN62 _).trans (by simp)
@[simp] theorem LEN96 (es : List AV) : lenA T 96 (.sl es) = some (.int .i64 es.length) := rfl
@[simp] theorem LENN96 : lenA T 96 .hn = some (.int .i64 0) := rfl
@[simp] theorem LENH96 (l k n s : Nat) (a : Bool) : lenA T 96 (.hs l k n s a) = some (.int .i64 n) := rfl
@[simp] theorem LENE96 (l : List Int) : lenA T 96 (ints l) = some (.int .i64 l.length) := (LEN96 _).trans (by simp)
theorem IX22 {l : List Mod} {n : Int} (h0 : 0 ≤ n) (h : n < (l.length : Int)) : indexAddrA T 22 (mods l) (.int .i64 n) = some (.ip (acells (Mod.av l[n.toNat]!))) := indexAddrA_int (T := T) (t := 22) (e := 42) rfl rfl rfl (fun _ => by first | rfl | (simp; done) | (simp; rfl)) h0 h
theorem IX27 {l : List Ref} {n : Int} (h0 : 0 ≤ n) (h : n < (l.length : Int)) : indexAddrA T 27 (refsA l) (.int .i64 n) = some (.ip (acells (refA l[n.toNat]!))) := indexAddrA_int (T := T) (t := 27) (e := 24) rfl rfl rfl (fun _ => by first | rfl | (simp; done) | (simp; rfl)) h0 h
theorem IX35 {l : List Str} {n : Int} (h0 : 0 ≤ n) (h : n < (l.length : Int)) : indexAddrA T 35 (strs l) (.int .i64 n) = some (.ip (acells (AV.str l[n.toNat]!))) := indexAddrA_int (T := T) (t := 35) (e := 9) rfl rfl rfl (fun _ => by first | rfl | (simp; done) | (simp; rfl)) h0 h
theorem IX36 {l : List Fld} {n : Int} (h0 : 0 ≤ n) (h : n < (l.length : Int)) : indexAddrA T 36 (flds l) (.int .i64 n) = some (.ip (acells (fldAv l[n.toNat]!))) := by rw [flds, fldsAv_map]; exact indexAddrA_int (T := T) (t := 36) (e := 78) rfl rfl rfl (fun _ => by first | rfl | (simp; done) | (simp; rfl)) h0 h
theorem IX37 {l : List Exp} {n : Int} (h0 : 0 ≤ n) (h : n < (l.length : Int)) : indexAddrA T 37 (exps l) (.int .i64 n) = some (.ip (acells (Exp.av l[n.toNat]!))) := by rw [exps, expsAv_map]; exact indexAddrA_int (T := T) (t := 37) (e := 46) rfl rfl rfl (fun _ => by first | rfl | (simp; done) | (simp; rfl)) h0 h
theorem IX38 {l : List Fun} {n : Int} (h0 : 0 ≤ n) (h : n < (l.length : Int)) : indexAddrA T 38 (funs l) (.int .i64 n) = some (.ip (acells (Fun.av l[n.toNat]!))) := indexAddrA_int (T := T) (t := 38) (e := 48) rfl rfl rfl (fun _ => by first | rfl | (simp; done) | (simp; rfl)) h0 h
theorem IX62 {l : List (List Ref)} {n : Int} (h0 : 0 ≤ n) (h : n < (l.length : Int)) : indexAddrA T 62 (refssA l) (.int .i64 n) = some (.ip (acells (refsA l[n.toNat]!))) := indexAddrA_int (T := T) (t := 62) (e := 27) rfl rfl rfl (fun _ => by first | rfl | (simp; done) | (simp; rfl)) h0 h
theorem IX96 {l : List Int} {n : Int} (h0 : 0 ≤ n) (h : n < (l.length : Int)) : indexAddrA T 96 (ints l) (.int .i64 n) = some (.ip (acells (AV.int .i64 l[n.toNat]!))) := indexAddrA_int (T := T) (t := 96) (e := 3) rfl rfl rfl (fun _ => by first | rfl | (simp; done) | (simp; rfl)) h0 h
theorem AP22 {a b : List Mod} (h : (a.length + b.length) * 192 ≤ 140737488355328) : appA T 22 (mods a) (mods b) = some (mods (a ++ b)) := by
  have := appA_map (T := T) (t := 22) (e := 42) rfl rfl rfl (f := Mod.av) (fun _ => by first | rfl | (simp; done) | (simp; rfl)) (a := a) (b := b) h (by decide)
  simpa [mods] using this
theorem AP27 {a b : List Ref} (h : (a.length + b.length) * 32 ≤ 140737488355328) : appA T 27 (refsA a) (refsA b) = some (refsA (a ++ b)) := by
  have := appA_map (T := T) (t := 27) (e := 24) rfl rfl rfl (f := refA) (fun _ => by first | rfl | (simp; done) | (simp; rfl)) (a := a) (b := b) h (by decide)
  simpa [refsA] using this
theorem AP62 {a b : List (List Ref)} (h : (a.length + b.length) * 24 ≤ 140737488355328) : appA T 62 (refssA a) (refssA b) = some (refssA (a ++ b)) := by
  have := appA_map (T := T) (t := 62) (e := 27) rfl rfl rfl (f := refsA) (fun _ => by first | rfl | (simp; done) | (simp; rfl)) (a := a) (b := b) h (by decide)
  simpa [refssA] using this
end Go.Proofs.Ytpnonheegflllaa
