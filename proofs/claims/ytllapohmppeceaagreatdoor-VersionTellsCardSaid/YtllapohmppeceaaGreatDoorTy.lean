/- Versions and ranges, as abstract values. No condition. -/
import Derived.Test.YtllapohmppeceaaGreatDoorLc
namespace Go.Av.Ap
structure Ver where
  a : Int
  b : Int
  c : Int
  deriving DecidableEq, Inhabited
structure Rng where
  lo : Ver
  hi : Ver
  deriving DecidableEq, Inhabited
def Ver.av (v : Ver) : AV := .agg [.int .i64 v.a, .int .i64 v.b, .int .i64 v.c]
def Rng.av (r : Rng) : AV := .agg [.int .i64 r.lo.a, .int .i64 r.lo.b, .int .i64 r.lo.c, .int .i64 r.hi.a, .int .i64 r.hi.b, .int .i64 r.hi.c]
def vers (l : List Ver) : AV := .sl (l.map Ver.av)
def rngs (l : List Rng) : AV := .sl (l.map Rng.av)
@[simp] theorem acells_ver (v : Ver) : acells v.av = [.int .i64 v.a, .int .i64 v.b, .int .i64 v.c] := rfl
@[simp] theorem acells_rng (r : Rng) : acells r.av = [.int .i64 r.lo.a, .int .i64 r.lo.b, .int .i64 r.lo.c, .int .i64 r.hi.a, .int .i64 r.hi.b, .int .i64 r.hi.c] := rfl
@[simp] theorem fold_ver (v : Ver) : AV.agg [.int .i64 v.a, .int .i64 v.b, .int .i64 v.c] = v.av := rfl
@[simp] theorem fold_rng (r : Rng) : AV.agg [.int .i64 r.lo.a, .int .i64 r.lo.b, .int .i64 r.lo.c, .int .i64 r.hi.a, .int .i64 r.hi.b, .int .i64 r.hi.c] = r.av := rfl
@[simp] theorem cl_ver (g : Nat → Nat → Nat → Nat → Bool → AV) (v : Ver) : cl g v.av = v.av := rfl
@[simp] theorem cl_rng (g : Nat → Nat → Nat → Nat → Bool → AV) (v : Rng) : cl g v.av = v.av := rfl
@[simp] theorem cl_vers (g : Nat → Nat → Nat → Nat → Bool → AV) (l : List Ver) : cl g (vers l) = vers l := by simp [vers, cl, cls_map g Ver.av (cl_ver g)]
@[simp] theorem cl_rngs (g : Nat → Nat → Nat → Nat → Bool → AV) (l : List Rng) : cl g (rngs l) = rngs l := by simp [rngs, cl, cls_map g Rng.av (cl_rng g)]
@[simp] theorem size_ver (v : Ver) : sizeA v.av = some 3 := rfl
@[simp] theorem size_rng (v : Rng) : sizeA v.av = some 6 := rfl
@[simp] theorem okEl_ver (v : Ver) : okEl 3 v.av = true := rfl
@[simp] theorem okEl_rng (v : Rng) : okEl 6 v.av = true := rfl
@[simp] theorem okSz_vers (l : List Ver) : okSz 3 (l.map Ver.av) = true := okSz_map okEl_ver l
@[simp] theorem okSz_rngs (l : List Rng) : okSz 6 (l.map Rng.av) = true := okSz_map okEl_rng l
@[simp] theorem isoP_ver (v : Ver) : isoP (M.pure v.av) = M.pure v.av := isoP_pure fun g => cl_ver g v
@[simp] theorem isoP_rng (v : Rng) : isoP (M.pure v.av) = M.pure v.av := isoP_pure fun g => cl_rng g v
@[simp] theorem isoP_vers (v : List Ver) : isoP (M.pure (vers v)) = M.pure (vers v) := isoP_pure fun g => cl_vers g v
@[simp] theorem isoP_rngs (v : List Rng) : isoP (M.pure (rngs v)) = M.pure (rngs v) := isoP_pure fun g => cl_rngs g v
@[simp high] theorem cellsM_ver (x : Ver) : cellsM 3 x.av = M.pure x.av := by rw [cellsM_of (okEl_ver x), acells_ver, fold_ver]
@[simp high] theorem cellsNil_ver (x : Ver) : cellsNil 3 [] x.av = M.pure x.av := by rw [cellsNil_of (okEl_ver x), acells_ver, fold_ver]
@[simp high] theorem cellsM_rng (x : Rng) : cellsM 6 x.av = M.pure x.av := by rw [cellsM_of (okEl_rng x), acells_rng, fold_rng]
@[simp high] theorem cellsNil_rng (x : Rng) : cellsNil 6 [] x.av = M.pure x.av := by rw [cellsNil_of (okEl_rng x), acells_rng, fold_rng]
end Go.Av.Ap
