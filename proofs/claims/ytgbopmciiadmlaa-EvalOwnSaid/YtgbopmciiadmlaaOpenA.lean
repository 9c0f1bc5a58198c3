/- The arguments, read as typed values. No condition. -/
import Derived.Test.YtgbopmciiadmlaaProg
import Derived.Test.YtgbopmciiadmlaaLc
namespace Go.Proofs.Ytgbopmciiadmlaa
open Go Go.Av Go.Av.Ap Go.RowKit
set_option maxRecDepth 1000000
section
variable {H : Type} {enc : TypeId × Value → H} {W : World}
theorem reach_eq : reachBytes = 140737488351232 := rfl
theorem rd_strs (N : Nat) : Rd enc Try.prog W N 25 (fun l : List Str => [strs l]) (fun l => l.length ≤ 8796093022208) :=
  (rd_slice (rd_str Try.underlying9) Try.underlying25 (by kernel_rfl : _ = 1) (by decide) (by kernel_rfl : _ = 16) (elOf_one fun _ => rfl)).map id (fun _ => rfl) (fun l h => by have := h.1; rw [reach_eq] at this; simp only [id]; omega)
theorem rd_ints (N : Nat) : Rd enc Try.prog W N 24 (fun l : List Int => [ints l]) (fun l => l.length ≤ 140737488355328) :=
  (rd_slice (rd_int Try.underlying3) Try.underlying24 (by kernel_rfl : _ = 1) (by decide) (by kernel_rfl : _ = 8) (elOf_one fun _ => rfl)).map id (fun _ => rfl) (fun l h => by have := h.1; rw [reach_eq] at this; simp only [id]; omega)
theorem Val.lim_mk {k n : Int} {ns : List Str} {vs : List Val} (h1 : ns.length ≤ 140737488355328) (h2 : vs.length ≤ 140737488355328) (h3 : ∀ v ∈ vs, v.Lim) : (Val.mk k n ns vs).Lim := fun j => match j with
  | 0 => trivial
  | j + 1 => ⟨h1, h2, fun x hx => h3 x hx j⟩
theorem Exp.lim_mk {o n : Int} {s m : Str} {ns : List Str} {es : List Exp} (h1 : ns.length ≤ 8796093022208) (h2 : es.length ≤ 140737488355328) (h3 : ∀ v ∈ es, v.Lim) : (Exp.mk o n s m ns es).Lim := fun j => match j with
  | 0 => trivial
  | j + 1 => ⟨h1, h2, fun x hx => h3 x hx j⟩
theorem Ty.lim_mk {k : Int} {fs : List Fld} (h2 : fs.length ≤ 140737488355328) (h3 : ∀ v ∈ fs, v.2.Lim) : (Ty.mk k fs).Lim := fun j => match j with
  | 0 => trivial
  | j + 1 => ⟨h2, fun x hx => h3 x hx j⟩
theorem rd_vals_of {N : Nat} (h : Rd enc Try.prog W N 39 (fun v : Val => acells v.av) Val.Lim) : Rd enc Try.prog W N 23 (fun l : List Val => [vals l]) (fun l => l.length ≤ 140737488355328 ∧ ∀ v ∈ l, v.Lim) :=
  (rd_slice h Try.underlying23 (by kernel_rfl : _ = 4) (by decide) (by kernel_rfl : _ = 64) (ev := Val.av) (elOf_agg' fun v => by rw [v.av_eq]; rfl)).map id (fun l => by simp [vals, valsAv_map]) (fun l h => ⟨by have := h.1; rw [reach_eq] at this; simp only [id]; omega, h.2⟩)
theorem rd_val : ∀ N, Rd enc Try.prog W N 39 (fun v : Val => acells v.av) Val.Lim
  | 0 => .zero
  | N + 1 => (rd_struct Try.underlying39 (by kernel_rfl) (rdFs_cons (rd_int Try.underlying3) rfl (by kernel_rfl : _ = 1) (rdFs_cons (rd_int Try.underlying3) rfl (by kernel_rfl : _ = 1) (rdFs_cons (rd_strs N) rfl (by kernel_rfl : _ = 1)
      (rdFs_cons (rd_vals_of (rd_val N)) rfl (by kernel_rfl : _ = 1) rdFs_nil))))).map (fun x => Val.mk x.1 x.2.1 x.2.2.1 x.2.2.2.1) (fun x => by simp [Val.av_eq, acells]) (fun x h => Val.lim_mk (by have := h.2.2.1; omega) h.2.2.2.1.1 h.2.2.2.1.2)
theorem rd_vals (N : Nat) : Rd enc Try.prog W N 23 (fun l : List Val => [vals l]) (fun l => l.length ≤ 140737488355328 ∧ ∀ v ∈ l, v.Lim) := rd_vals_of (rd_val N)
theorem rd_exps_of {N : Nat} (h : Rd enc Try.prog W N 28 (fun v : Exp => v.cells) Exp.Lim) : Rd enc Try.prog W N 26 (fun l : List Exp => [exps l]) (fun l => l.length ≤ 140737488355328 ∧ ∀ v ∈ l, v.Lim) :=
  (rd_slice h Try.underlying26 (by kernel_rfl : _ = 6) (by decide) (by kernel_rfl : _ = 96) (ev := Exp.av) (elOf_agg' fun v => rfl)).map id (fun l => by simp [exps, expsAv_map]) (fun l h => ⟨by have := h.1; rw [reach_eq] at this; simp only [id]; omega, h.2⟩)
theorem rd_exp : ∀ N, Rd enc Try.prog W N 28 (fun v : Exp => v.cells) Exp.Lim
  | 0 => .zero
  | N + 1 => (rd_struct Try.underlying28 (by kernel_rfl) (rdFs_cons (rd_int Try.underlying3) rfl (by kernel_rfl : _ = 1) (rdFs_cons (rd_int Try.underlying3) rfl (by kernel_rfl : _ = 1) (rdFs_cons (rd_str Try.underlying9) rfl (by kernel_rfl : _ = 1) (rdFs_cons (rd_str Try.underlying9) rfl (by kernel_rfl : _ = 1)
      (rdFs_cons (rd_strs N) rfl (by kernel_rfl : _ = 1) (rdFs_cons (rd_exps_of (rd_exp N)) rfl (by kernel_rfl : _ = 1) rdFs_nil))))))).map (fun x => Exp.mk x.1 x.2.1 x.2.2.1 x.2.2.2.1 x.2.2.2.2.1 x.2.2.2.2.2.1) (fun x => by simp [Exp.cells_eq, Exp.op, Exp.n, Exp.s, Exp.m, Exp.names, Exp.args]) (fun x h => Exp.lim_mk h.2.2.2.2.1 h.2.2.2.2.2.1.1 h.2.2.2.2.2.1.2)
theorem rd_exps (N : Nat) : Rd enc Try.prog W N 26 (fun l : List Exp => [exps l]) (fun l => l.length ≤ 140737488355328 ∧ ∀ v ∈ l, v.Lim) := rd_exps_of (rd_exp N)
theorem rd_flds_of {N : Nat} (h : Rd enc Try.prog W N 65 (fun v : Ty => v.cells) Ty.Lim) : Rd enc Try.prog W (N + 1) 58 (fun l : List Fld => [flds l]) (fun l => l.length ≤ 140737488355328 ∧ ∀ v ∈ l, v.2.Lim) :=
  (rd_slice ((rd_struct Try.underlying104 (by kernel_rfl) (rdFs_cons (rd_str Try.underlying9) rfl (by kernel_rfl : _ = 1) (rdFs_cons h rfl (by kernel_rfl : _ = 2) rdFs_nil))).map (fun x => ((x.1, x.2.1) : Fld)) (cells' := fun f => acells (fldAv f)) (Ok' := fun f => f.2.Lim) (fun x => by simp [Ty.cells_eq]) (fun x h => h.2.1))
    Try.underlying58 (by kernel_rfl : _ = 3) (by decide) (by kernel_rfl : _ = 48) (ev := fldAv) (elOf_agg' fun v => by rw [fldAv_eq]; rfl)).map id (fun l => by simp [flds, fldsAv_map]) (fun l h => ⟨by have := h.1; rw [reach_eq] at this; simp only [id]; omega, h.2⟩)
theorem rd_ty : ∀ N, Rd enc Try.prog W N 65 (fun v : Ty => v.cells) Ty.Lim
  | 0 => .zero
  | N + 1 => (rd_struct Try.underlying65 (by kernel_rfl) (rdFs_cons (rd_int Try.underlying3) rfl (by kernel_rfl : _ = 1) (rdFs_cons ((rd_flds_of (rd_ty N)).le (Nat.le_succ N)) rfl (by kernel_rfl : _ = 1) rdFs_nil))).map (fun x => Ty.mk x.1 x.2.1)
      (fun x => by simp [Ty.cells_eq, Ty.kind, Ty.fields]) (fun x h => Ty.lim_mk h.2.1.1 h.2.1.2)
theorem rd_flds (N : Nat) : Rd enc Try.prog W N 58 (fun l : List Fld => [flds l]) (fun l => l.length ≤ 140737488355328 ∧ ∀ v ∈ l, v.2.Lim) := (rd_flds_of (rd_ty N)).le (Nat.le_succ N)
theorem rd_fun (N : Nat) : Rd enc Try.prog W (N + 1) 67 (fun f : Fun => acells f.av) Fun.Lim :=
  (rd_struct Try.underlying67 (by kernel_rfl) (rdFs_cons (rd_str Try.underlying9) rfl (by kernel_rfl : _ = 1) (rdFs_cons (rd_bool Try.underlying4) rfl (by kernel_rfl : _ = 1) (rdFs_cons (rd_flds N) rfl (by kernel_rfl : _ = 1) (rdFs_cons (rd_ty N) rfl (by kernel_rfl : _ = 2)
    (rdFs_cons (rd_int Try.underlying3) rfl (by kernel_rfl : _ = 1) (rdFs_cons (rd_exp N) rfl (by kernel_rfl : _ = 6) rdFs_nil))))))).map (fun x => (⟨x.1, x.2.1, x.2.2.1, x.2.2.2.1, x.2.2.2.2.1, x.2.2.2.2.2.1⟩ : Fun))
    (fun x => by simp [Ty.cells_eq, Exp.cells_eq]) (fun x h => ⟨h.2.2.1.1, h.2.2.1.2, h.2.2.2.1, h.2.2.2.2.2.1⟩)
theorem rd_funs (N : Nat) : Rd enc Try.prog W N 59 (fun l : List Fun => [funs l]) (fun l => l.length ≤ 140737488355328 ∧ ∀ v ∈ l, v.Lim) :=
  ((rd_slice (rd_fun N) Try.underlying59 (by kernel_rfl : _ = 12) (by decide) (by kernel_rfl : _ = 184) (ev := Fun.av) (elOf_agg' fun v => rfl)).map id (fun l => by simp [funs]) (fun l h => ⟨by have := h.1; rw [reach_eq] at this; simp only [id]; omega, h.2⟩)).le (Nat.le_succ N)
theorem rd_mod (N : Nat) : Rd enc Try.prog W (N + 1) 63 (fun m : Mod => acells m.av) Mod.Lim :=
  (rd_struct Try.underlying63 (by kernel_rfl) (rdFs_cons (rd_str Try.underlying9) rfl (by kernel_rfl : _ = 1) (rdFs_cons (rd_strs N) rfl (by kernel_rfl : _ = 1) (rdFs_cons (rd_flds N) rfl (by kernel_rfl : _ = 1) (rdFs_cons (rd_exps N) rfl (by kernel_rfl : _ = 1)
    (rdFs_cons (rd_funs N) rfl (by kernel_rfl : _ = 1) (rdFs_cons (rd_bool Try.underlying4) rfl (by kernel_rfl : _ = 1)
    (rdFs_cons ((rd_struct Try.underlying61 (by kernel_rfl) (rdFs_cons (rd_flds N) rfl (by kernel_rfl : _ = 1) (rdFs_cons (rd_exps N) rfl (by kernel_rfl : _ = 1) (rdFs_cons (rd_exps N) rfl (by kernel_rfl : _ = 1) rdFs_nil)))).le (Nat.le_succ N)) rfl (by kernel_rfl : _ = 3) rdFs_nil)))))))).map
    (fun x => (⟨x.1, x.2.1, x.2.2.1, x.2.2.2.1, x.2.2.2.2.1, x.2.2.2.2.2.1, x.2.2.2.2.2.2.1.1, x.2.2.2.2.2.2.1.2.1, x.2.2.2.2.2.2.1.2.2.1⟩ : Mod))
    (fun x => by simp) (fun x h => ⟨by have := h.2.1; simp only; omega, h.2.2.1.1, h.2.2.1.2, h.2.2.2.1.1, h.2.2.2.1.2, h.2.2.2.2.1.1, h.2.2.2.2.1.2, h.2.2.2.2.2.2.1.1.1, h.2.2.2.2.2.2.1.1.2, h.2.2.2.2.2.2.1.2.1.1, h.2.2.2.2.2.2.1.2.1.2, h.2.2.2.2.2.2.1.2.2.1.1, h.2.2.2.2.2.2.1.2.2.1.2⟩)
theorem rd_mods (N : Nat) : Rd enc Try.prog W N 22 (fun l : List Mod => [mods l]) (fun l => l.length ≤ 140737488355328 ∧ ∀ v ∈ l, v.Lim) :=
  ((rd_slice (rd_mod N) Try.underlying22 (by kernel_rfl : _ = 9) (by decide) (by kernel_rfl : _ = 192) (ev := Mod.av) (elOf_agg' fun v => rfl)).map id (fun l => by simp [mods]) (fun l h => ⟨by have := h.1; rw [reach_eq] at this; simp only [id]; omega, h.2⟩)).le (Nat.le_succ N)
end
end Go.Proofs.Ytgbopmciiadmlaa
