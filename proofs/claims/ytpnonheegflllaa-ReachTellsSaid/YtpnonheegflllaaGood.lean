/- The program of the evaluator is the seat's. No condition. -/
import Derived.Test.YtpnonheegflllaaAnn
import Derived.KernelRfl
namespace Go.Proofs.Ytpnonheegflllaa
open Go Go.Av
set_option maxRecDepth 1000000
instance dr0 : Dr := ⟨False⟩
theorem noDr {p : Prop} (h : Dr.on) : p := False.elim h
theorem tab_ok : (tab.map fun x => tiOf Try.prog x.1) = tab.map fun x => some x.2 := by kernel_rfl
theorem findT_mem : (l : List (Nat × TI)) → (t : Nat) → (ti : TI) → findT l t = some ti → (t, ti) ∈ l
  | [], t, ti, h => by cases h
  | (k, x) :: r, t, ti, h => by
    simp only [findT] at h
    cases hk : Nat.beq k t with
    | true =>
      rw [hk] at h
      simp only [cond_true, Option.some.injEq] at h
      have := Nat.eq_of_beq_eq_true hk
      subst this h
      exact List.mem_cons_self
    | false =>
      rw [hk] at h
      exact List.mem_cons_of_mem _ (findT_mem r t ti h)
theorem mem_of_map {α β : Type} {f g : α → β} : {l : List α} → l.map f = l.map g → ∀ x ∈ l, f x = g x
  | [], _, x, hx => by cases hx
  | a :: l, h, x, hx => by
    simp only [List.map_cons, List.cons.injEq] at h
    rcases List.mem_cons.1 hx with rfl | hx
    · exact h.1
    · exact mem_of_map h.2 x hx
theorem tok : TOK Try.prog T := ⟨fun t ti h => mem_of_map tab_ok (t, ti) (findT_mem tab t ti h), by kernel_rfl⟩
theorem tabF_ok : (tabF.map fun x => Try.prog.funcs[x.1]?) = tabF.map fun x => some x.2.1 := by kernel_rfl
theorem tabF_names : (tabF.map fun x => x.2.1.name == "runtime.NumGoroutine") = tabF.map fun _ => false := by kernel_rfl
theorem findF_mem : (l : List (Nat × (Func × Ann))) → (t : Nat) → (x : Func × Ann) → findF l t = some x → (t, x) ∈ l
  | [], t, ti, h => by cases h
  | (k, x) :: r, t, ti, h => by
    simp only [findF] at h
    cases hk : Nat.beq k t with
    | true =>
      rw [hk] at h
      simp only [cond_true, Option.some.injEq] at h
      have := Nat.eq_of_beq_eq_true hk
      subst this h
      exact List.mem_cons_self
    | false =>
      rw [hk] at h
      exact List.mem_cons_of_mem _ (findF_mem r t ti h)
theorem funcs_ok : ∀ f fn a, pg.funcs f = some (fn, a) → Try.prog.funcs[f]? = some fn ∧ (fn.name == "runtime.NumGoroutine") = false := by
  intro f fn a h
  have := findF_mem tabF f (fn, a) h
  exact ⟨mem_of_map tabF_ok _ this, mem_of_map tabF_names _ this⟩
end Go.Proofs.Ytpnonheegflllaa
