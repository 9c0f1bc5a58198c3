/- eval.try's contract. No condition. -/
import Derived.Test.YtgbopmciiadmlaaOth
import Derived.Test.YtgbopmciiadmlaaTry
namespace Go.Proofs.Ytgbopmciiadmlaa
open Go Go.Av
set_option maxRecDepth 100000
def tryW (w : World) : World := (w.alloc (Obj.cells #[Value.int IntKind.i64 0, Value.int IntKind.i64 0, Value.slice none 0 0, Value.slice none 0 0] 39)).alloc (Obj.cells #[Value.int IntKind.i64 0] 33)
def tryS (w w' : World) (u0 u1 u2 u3 e : Value) : World := ((((w'.setCell ⟨w.heap.size, 0, none⟩ u0).setCell ⟨w.heap.size, 1, none⟩ u1).setCell ⟨w.heap.size, 2, none⟩ u2).setCell ⟨w.heap.size, 3, none⟩ u3).setCell ⟨w.heap.size + 1, 0, none⟩ e
def tryR (w : World) (R : Ending → World → Prop) : Ending → World → Prop := fun e w' =>
  w'.heap[w.heap.size]? = (tryW w).heap[w.heap.size]? ∧ w'.heap[w.heap.size + 1]? = (tryW w).heap[w.heap.size + 1]? ∧
  ((∃ u0 u1 u2 u3 : Value, u0.oneCell' = true ∧ u1.oneCell' = true ∧ u2.oneCell' = true ∧ u3.oneCell' = true ∧ e = .returned (.agg #[u0, u1, u2, u3]) ∧ R (.returned (.tuple #[.agg #[u0, u1, u2, u3], .int .i64 0])) (tryS w w' u0 u1 u2 u3 (.int .i64 0))) ∨
   ∃ n, e = .panicked [{ v := .iface 33 (.int .i64 n), recovered := false }] ∧ R (.returned (.tuple #[.agg #[.int .i64 0, .int .i64 0, .slice none 0 0, .slice none 0 0], .int .i64 n])) (tryS w w' (.int .i64 0) (.int .i64 0) (.slice none 0 0) (.slice none 0 0) (.int .i64 n)))
set_option maxHeartbeats 4000000 in
theorem try_walk (g : FuncId) (x y : Array Value) (w : World) (R : Ending → World → Prop) (hfn : (Try.prog.funcs[g]?).any (fun fn => fn.body.isSome && !(fn.name == "runtime.NumGoroutine")) = true)
    (hc : Calls Try.prog g (x ++ y) (tryW w) (tryR w R)) : Calls Try.prog 40 #[.func (.func g) x y] w R := by
  have hmf : ∀ (fn : Fn) (first cap : Array Value) (w : World), (Instr.makeFunc fn first cap).run Try.prog w = .ok (.func fn first cap) w := fun _ _ _ _ => rfl
  go_enter_defers Try.func40, Try.ntmps40
  go_wp2
  rw [callFunc_run hfn, Oper.upon_enter]
  refine hc.mono fun e w' h => ?_
  obtain ⟨k0, k1, h⟩ := h
  have r0 : w'.heap[w.heap.size]? = some (.cells #[Value.int IntKind.i64 0, Value.int IntKind.i64 0, Value.slice none 0 0, Value.slice none 0 0] 39) := by rw [k0]; exact (heap_alloc_old _ _ (by simp)).trans (heap_alloc_new w _)
  have r1 : w'.heap[w.heap.size + 1]? = some (.cells #[Value.int IntKind.i64 0] 33) := by rw [k1]; have := heap_alloc_new (w.alloc (Obj.cells #[Value.int IntKind.i64 0, Value.int IntKind.i64 0, Value.slice none 0 0, Value.slice none 0 0] 39)) (Obj.cells #[Value.int IntKind.i64 0] 33); rwa [World.size_alloc] at this
  have c0 : w'.cell? ⟨w.heap.size, 0, none⟩ = some (.int .i64 0) := by simp [World.cell?, r0]
  have c1 : w'.cell? ⟨w.heap.size, 1, none⟩ = some (.int .i64 0) := by simp [World.cell?, r0]
  have c2 : w'.cell? ⟨w.heap.size, 2, none⟩ = some (.slice none 0 0) := by simp [World.cell?, r0]
  have c3 : w'.cell? ⟨w.heap.size, 3, none⟩ = some (.slice none 0 0) := by simp [World.cell?, r0]
  have d0 : w'.cell? ⟨w.heap.size + 1, 0, none⟩ = some (.int .i64 0) := by simp [World.cell?, r1]
  have f0 : w'.frozen? ⟨w.heap.size, 0, none⟩ = false := by simp [World.frozen?, r0]
  have f1 : w'.frozen? ⟨w.heap.size, 1, none⟩ = false := by simp [World.frozen?, r0]
  have f2 : w'.frozen? ⟨w.heap.size, 2, none⟩ = false := by simp [World.frozen?, r0]
  have f3 : w'.frozen? ⟨w.heap.size, 3, none⟩ = false := by simp [World.frozen?, r0]
  have g0 : w'.frozen? ⟨w.heap.size + 1, 0, none⟩ = false := by simp [World.frozen?, r1]
  clear k0 k1 r0 r1 hc hmf
  rcases h with ⟨u0, u1, u2, u3, o0, o1, o2, o3, rfl, hR⟩ | ⟨n, rfl, hR⟩
  · simp only
    rename_i K1 hK1 K hK
    apply hK
    clear hK
    have hK1' := hK1
    clear hK1
    have s0 : ∀ a m (w : World), (store a u0 m).run Try.prog w = stored Try.prog w a u0 m := fun a m w => run_store _ w a u0 m o0
    have s1 : ∀ a m (w : World), (store a u1 m).run Try.prog w = stored Try.prog w a u1 m := fun a m w => run_store _ w a u1 m o1
    have s2 : ∀ a m (w : World), (store a u2 m).run Try.prog w = stored Try.prog w a u2 m := fun a m w => run_store _ w a u2 m o2
    have s3 : ∀ a m (w : World), (store a u3 m).run Try.prog w = stored Try.prog w a u3 m := fun a m w => run_store _ w a u3 m o3
    go_wp2
    change Leaves _ _ _ _ _ _ _
    refine leaves_cons (f := 68) (args := #[.pointer (some ⟨w.heap.size, 0, none⟩), .pointer (some ⟨w.heap.size + 1, 0, none⟩)]) (by simp) (by simp [go_sem]) ?_
    refine (catch_idle ⟨w.heap.size, 0, none⟩ ⟨w.heap.size + 1, 0, none⟩ _).mono ?_
    rintro e u' w'' ⟨rfl, rfl, rfl⟩
    simp only [Leaves, settle]
    refine ⟨_, ?_, hR⟩
    simp [results, Try.results40, go_sem, tryS, World.cell?_setCell_same, c0, c1, c2, c3, d0]
  · change Leaves _ _ _ _ _ _ _
    refine leaves_cons (f := 68) (args := #[.pointer (some ⟨w.heap.size, 0, none⟩), .pointer (some ⟨w.heap.size + 1, 0, none⟩)]) (by simp) (by simp [go_sem]) ?_
    refine (catch_pan w.heap.size (w.heap.size + 1) _ _ _ _ _ n w' c0 c1 c2 c3 d0 f0 f1 f2 f3 g0 (by omega) (by omega)).mono ?_
    rintro e u' w'' ⟨rfl, rfl, rfl⟩
    simp only [Leaves, settle]
    refine ⟨_, ?_, hR⟩
    simp [results, Try.results40, go_sem, tryS, World.cell?_setCell_same, c0, c1, c2, c3, d0]
end Go.Proofs.Ytgbopmciiadmlaa
