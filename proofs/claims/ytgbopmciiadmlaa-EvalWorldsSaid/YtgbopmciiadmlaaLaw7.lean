/- EvalWorlds is true. Condition: bounds on slices. -/
import Derived.Test.YtgbopmciiadmlaaLaw6
namespace Go.Proofs.Ytgbopmciiadmlaa
open Go Go.Av Go.Av.Ap

theorem loop4 {p : List Mod} {fu : Int} (F : FewP p fu) (module fn : Str) (args : List Val) (hargs : valsSz args ≤ 4611686018427387904) (world more : List Int) (hw : world.length ≤ 30) (hmo : more.length ≤ 30) (fuel : Int) :
    ∀ r (acc : List Int), (runX p module fn args world fuel).deeds.length - acc.length = r → acc.length ≤ (runX p module fn args world fuel).deeds.length → (∀ i, i < acc.length → acc.getD i 0 = world.getD i 0) →
    fixW (L4_0 (callW pg) fixW) [mods p, .str module, .str fn, vals args, ints world, ints more, .int .i64 fuel, .bool true, .ip (acells (runX p module fn args world fuel).av), ints acc, .int .i64 (acc.length : Int)] = M.pure (.bool true) := by
  have la := run_outLim F module fn args world fuel
  have lb := (run_lim p module fn args world fuel F.small).deeds
  have hlaw := run_worlds p module fn args world fuel
  generalize hA : runX p module fn args world fuel = A at *
  intro r
  induction r with
  | zero =>
    intro acc hr hk hacc
    have hlen : acc.length = A.deeds.length := by omega
    have hap := AP24 (a := acc) (b := more) (by omega)
    have hrb := t14 F.lim module fn args (acc ++ more) fuel hargs
    have hsame : runX p module fn args (acc ++ more) fuel = A := hlaw.2 _ fun i hi => by
      rw [← hacc i (by omega), List.getD_eq_getElem?_getD, List.getElem?_append_left (by omega), List.getD_eq_getElem?_getD]
    rw [hsame] at hrb
    have hal := t13 A A la la
    have hright : RightO A := by rw [← hA]; exact run_right ..
    rw [alike_refl hright] at hal
    rw [FL4_0]
    simp only [L4_0]
    simp [hlen, hap, hrb, hal]
  | succ r ih =>
    intro acc hr hk hacc
    have h : acc.length < A.deeds.length := by omega
    have hk' : (acc.length : Int) < (A.deeds.length : Int) := by omega
    have hans := hlaw.1 acc.length h
    rw [List.getElem?_eq_getElem h] at hans
    simp only [Option.getD_some] at hans
    have hn := ih (acc ++ [world.getD acc.length 0]) (by simp; omega) (by simp; omega) (fun i hi => by
      simp only [List.length_append, List.length_singleton] at hi
      by_cases h' : i < acc.length
      · rw [← hacc i h', List.getD_eq_getElem?_getD, List.getElem?_append_left h', List.getD_eq_getElem?_getD]
      · obtain rfl : i = acc.length := by omega
        rw [List.getD_eq_getElem?_getD, List.getElem?_append_right (by omega)]
        simp)
    have hb : ∀ n : Int, buildSliceA T 24 1 [(0, .int .i64 n)] = some (ints [n]) := fun _ => rfl
    have hap := AP24 (a := acc) (b := [world.getD acc.length 0]) (by simp; omega)
    rw [FL4_0]
    simp only [L4_0]
    simp only [List.length_append, List.length_singleton] at hn
    have hc1 : ((acc.length + 1 : Nat) : Int) = (acc.length : Int) + 1 := by omega
    rw [hc1] at hn
    by_cases hww : acc.length < world.length
    · have hww' : (acc.length : Int) < (world.length : Int) := by omega
      have hg : world.getD acc.length 0 = world[acc.length] := by rw [List.getD_eq_getElem?_getD, List.getElem?_eq_getElem hww]; rfl
      rw [hg] at hans hn hap
      simp at hn
      simp (disch := omega) [K4_0, h, hk', hww, hww', wrap_in, IX40, IX24, hans, hb, hap, hn]
    · have hww' : ¬ (acc.length : Int) < (world.length : Int) := by omega
      have hg : world.getD acc.length 0 = 0 := by rw [List.getD_eq_getElem?_getD, List.getElem?_eq_none (by omega)]; rfl
      rw [hg] at hans hn hap
      simp at hn
      simp (disch := omega) [K4_0, h, hk', hww, hww', wrap_in, IX40, IX24, hans, hb, hap, hn]

theorem t4 (p : List Mod) (hp : p.length ≤ 140737488355328) (hm : ∀ m ∈ p, m.Lim) (module fn : Str) (args : List Val) (hl : args.length ≤ 140737488355328) (ha : ∀ v ∈ args, v.Lim) (world more : List Int) (fuel : Int) :
    callW pg 4 [mods p, .str module, .str fn, vals args, ints world, ints more, .int .i64 fuel] = M.pure (.bool true) := by
  have hfew := t8 p hp hm args hl ha world fuel
  rw [C4]
  cases hq : fewX p args world fuel with
  | false =>
    rw [hq] at hfew
    simp [S4, small_W, hfew]
  | true =>
    rw [hq] at hfew
    have F := fewX_prog hq hm
    have hargs := (fewX_args hq ha).2
    by_cases hmo : more.length ≤ 30
    · have hmo' : ¬ (30 : Int) < (more.length : Int) := by omega
      have hra := t14 F.lim module fn args world fuel (by omega)
      have hlp := loop4 F module fn args (by omega) world more (fewX_world hq) hmo fuel _ [] rfl (by simp) (fun i hi => by simp at hi)
      have hz : ints [] = .sl [] := rfl
      rw [hz] at hlp
      simp at hlp
      simp [S4, small_W, hfew, hmo', hra, hlp]
    · have hmo' : (30 : Int) < (more.length : Int) := by omega
      simp [S4, small_W, hfew, hmo']
end Go.Proofs.Ytgbopmciiadmlaa
