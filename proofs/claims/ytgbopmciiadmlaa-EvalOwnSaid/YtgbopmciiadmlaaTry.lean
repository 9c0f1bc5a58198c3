/- eval.try. No condition. -/
import Derived.Test.YtgbopmciiadmlaaGood
import Derived.Tactics
import Derived.Tactics2
import Derived.Defers
import Derived.Recover
namespace Go.Proofs.Ytgbopmciiadmlaa
open Go Go.Av
theorem catch_idle (p q : Addr) (w : World) : CallsD Try.prog 68 #[.pointer (some p), .pointer (some q)] .returning w fun e u' w' => e = .returned (.tuple #[]) ∧ u' = .returning ∧ w' = w := by
  refine callsD_of_wpS Try.func68 rfl fun c₀ cs hu => ?_
  apply wpS_seq
  apply wpS_region
  simp [wpOpsS, go_sem, recoverD, hu, Try.ntmps68, Exit.thenS]
  refine wpS_of_wp ?_
  go_wp2
  cases c₀
  simp_all [bodyPostS, results, Try.results68]
theorem assert33 (n : Int) (w : World) : (Instr.typeAssert (.iface 33 (.int .i64 n)) 20 33 true).run Try.prog w = .ok (.tuple #[.int .i64 n, .bool true]) w := by kernel_rfl
theorem buildV (w : World) : (Instr.build 39 #[]).run Try.prog w = .ok (.agg #[.int .i64 0, .int .i64 0, .slice none 0 0, .slice none 0 0]) w := by
  obtain ⟨v, h1, h2⟩ := build_ok (P := Try.prog) (T := T) (w := w) (S := fun _ _ => none) (β := []) (told := true) (t := 39) (parts := []) (r := .agg [.int .i64 0, .int .i64 0, .hn, .hn]) (qs := #[]) tok rfl rfl
  rw [h1]
  simp only [VR, VRs] at h2
  obtain ⟨vs, rfl, a, _, rfl, rfl, b, _, rfl, rfl, c, _, rfl, rfl, d, _, rfl, rfl, rfl⟩ := h2
  rfl
set_option maxHeartbeats 4000000 in
set_option maxRecDepth 100000 in
theorem catch_pan (b c : Nat) (x0 x1 x2 x3 y0 : Value) (n : Int) (w : World) (c0 : w.cell? ⟨b, 0, none⟩ = some x0) (c1 : w.cell? ⟨b, 1, none⟩ = some x1) (c2 : w.cell? ⟨b, 2, none⟩ = some x2) (c3 : w.cell? ⟨b, 3, none⟩ = some x3)
    (d0 : w.cell? ⟨c, 0, none⟩ = some y0) (f0 : w.frozen? ⟨b, 0, none⟩ = false) (f1 : w.frozen? ⟨b, 1, none⟩ = false) (f2 : w.frozen? ⟨b, 2, none⟩ = false) (f3 : w.frozen? ⟨b, 3, none⟩ = false) (g0 : w.frozen? ⟨c, 0, none⟩ = false) (hne : ¬ b = c) (hne' : ¬ c = b) :
    CallsD Try.prog 68 #[.pointer (some ⟨b, 0, none⟩), .pointer (some ⟨c, 0, none⟩)] (.panicking [{ v := .iface 33 (.int .i64 n), recovered := false }]) w fun e u' w' =>
      e = .returned (.tuple #[]) ∧ u' = .panicking [{ v := .iface 33 (.int .i64 n), recovered := true }] ∧ w' = ((((w.setCell ⟨b, 0, none⟩ (.int .i64 0)).setCell ⟨b, 1, none⟩ (.int .i64 0)).setCell ⟨b, 2, none⟩ (.slice none 0 0)).setCell ⟨b, 3, none⟩ (.slice none 0 0)).setCell ⟨c, 0, none⟩ (.int .i64 n) := by
  refine callsD_of_wpS Try.func68 rfl fun c₀ cs hu => ?_
  apply wpS_seq
  apply wpS_region
  simp [wpOpsS, go_sem, recoverD, hu, Try.ntmps68, Exit.thenS]
  refine wpS_of_wp ?_
  have h1 := assert33 n
  have h2 := buildV
  go_wp2
  cases c₀
  simp_all [bodyPostS, results, Try.results68]
end Go.Proofs.Ytgbopmciiadmlaa
