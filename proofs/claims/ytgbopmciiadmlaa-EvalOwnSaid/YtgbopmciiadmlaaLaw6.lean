/- EvalFuel is true. Condition: bounds on slices. -/
import Derived.Test.YtgbopmciiadmlaaLaw5
import Derived.Test.YtgbopmciiadmlaaSmall
namespace Go.Proofs.Ytgbopmciiadmlaa
open Go Go.Av Go.Av.Ap
theorem t5 (p : List Mod) (hp : p.length ≤ 140737488355328) (hm : ∀ m ∈ p, m.Lim) (module fn : Str) (args : List Val) (hl : args.length ≤ 140737488355328) (ha : ∀ v ∈ args, v.Lim) (world : List Int) (fuel : Int) (hf : -9223372036854775808 ≤ fuel) (more : Int) (h0 : 0 ≤ more) (h1 : more ≤ 255) :
    callW pg 5 [mods p, .str module, .str fn, vals args, ints world, .int .i64 fuel, .int .u8 more] = M.pure (.bool true) := by
  have hfew := t8 p hp hm args hl ha world fuel
  have hconv : convA T 5 3 (.int .u8 more) = some (.int .i64 more) := by
    show some (AV.int .i64 (IntKind.i64.wrap more)) = _
    rw [wrap_in (by omega) (by omega)]
  rw [C5]
  cases hq : fewX p args world fuel with
  | false =>
    rw [hq] at hfew
    simp [S5, small_W, hfew]
  | true =>
    rw [hq] at hfew
    have F := fewX_prog hq hm
    have hargs := (fewX_args hq ha).2
    have hfu := F.fuel
    by_cases hneg : fuel < 0
    · simp [S5, small_W, hfew, hneg]
    · by_cases hbig : 2000 < fuel + more
      · simp (disch := omega) [S5, small_W, hfew, hneg, hconv, wrap_in, hbig]
      · have hra := t14 F.lim module fn args world fuel (by omega)
        have hrb := t14 F.lim module fn args world (fuel + more) (by omega)
        have la := run_outLim F module fn args world fuel
        have lb := run_outLim F module fn args world (fuel + more)
        have hlaw := run_fuel p module fn args world fuel more (by omega) h0 (by omega)
        have hal := t13 _ _ la lb
        have hhi := t25 _ _ lb la
        simp (disch := omega) [S5, small_W, hfew, hneg, hconv, wrap_in, hbig, hra, hrb, hal, hhi]
        have hr := run_right p module fn args world fuel
        by_cases he : (runX p module fn args world fuel).err = 16
        · rw [if_pos he] at hlaw ⊢
          rw [hist_prefix hlaw.1 hlaw.2 hr.2.1]
        · rw [if_neg he] at hlaw ⊢
          rw [hlaw, alike_refl hr]
end Go.Proofs.Ytgbopmciiadmlaa
