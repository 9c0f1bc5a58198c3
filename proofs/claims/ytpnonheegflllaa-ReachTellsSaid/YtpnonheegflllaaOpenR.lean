/- The arguments, read as typed values. No condition. -/
import Derived.Test.YtpnonheegflllaaProg
import Derived.Test.YtpnonheegflllaaLd
namespace Go.Proofs.Ytpnonheegflllaa
open Go Go.Av Go.Av.Ap Go.RowKit
set_option maxRecDepth 1000000
section
variable {H : Type} {enc : TypeId × Value → H} {W : World}
theorem reach_eq : reachBytes = 140737488351232 := rfl
theorem rd_strs (N : Nat) : Rd enc Try.prog W N 35 (fun l : List Str => [strs l]) (fun l => l.length ≤ 8796093022208) :=
  (rd_slice (rd_str Try.underlying9) Try.underlying35 (by kernel_rfl : _ = 1) (by decide) (by kernel_rfl : _ = 16) (elOf_one fun _ => rfl)).map id (fun _ => rfl) (fun l h => by have := h.1; rw [reach_eq] at this; simp only [id]; omega)
theorem Exp.lim_mk {o n : Int} {s m : Str} {ns : List Str} {es : List Exp} (h1 : ns.length ≤ 8796093022208) (h2 : es.length ≤ 140737488355328) (h3 : ∀ v ∈ es, v.Lim) : (Exp.mk o n s m ns es).Lim := fun j => match j with
  | 0 => trivial
  | j + 1 => ⟨h1, h2, fun x hx => h3 x hx j⟩
theorem Ty.lim_mk {k : Int} {fs : List Fld} (h2 : fs.length ≤ 140737488355328) (h3 : ∀ v ∈ fs, v.2.Lim) : (Ty.mk k fs).Lim := fun j => match j with
  | 0 => trivial
  | j + 1 => ⟨h2, fun x hx => h3 x hx j⟩
theorem rd_exps_of {N : Nat} (h : Rd enc Try.prog W N 46 (fun v : Exp => v.cells) Exp.Lim) : Rd enc Try.prog W N 37 (fun l : List Exp => [exps l]) (fun l => l.length ≤ 140737488355328 ∧ ∀ v ∈ l, v.Lim) :=
  (rd_slice h Try.underlying37 (by kernel_rfl : _ = 6) (by decide) (by kernel_rfl : _ = 96) (ev := Exp.av) (elOf_agg' fun v => rfl)).map id (fun l => by simp [exps, expsAv_map]) (fun l h => ⟨by have := h.1; rw [reach_eq] at this; simp only [id]; omega, h.2⟩)
theorem rd_exp : ∀ N, Rd enc Try.prog W N 46 (fun v : Exp => v.cells) Exp.Lim
  | 0 => .zero
  | N + 1 => (rd_struct Try.underlying46 (by kernel_rfl) (rdFs_cons (rd_int Try.underlying3) rfl (by kernel_rfl : _ = 1) (rdFs_cons (rd_int Try.underlying3) rfl (by kernel_rfl : _ = 1) (rdFs_cons (rd_str Try.underlying9) rfl (by kernel_rfl : _ = 1) (rdFs_cons (rd_str Try.underlying9) rfl (by kernel_rfl : _ = 1)
      (rdFs_cons (rd_strs N) rfl (by kernel_rfl : _ = 1) (rdFs_cons (rd_exps_of (rd_exp N)) rfl (by kernel_rfl : _ = 1) rdFs_nil))))))).map (fun x => Exp.mk x.1 x.2.1 x.2.2.1 x.2.2.2.1 x.2.2.2.2.1 x.2.2.2.2.2.1) (fun x => by simp [Exp.cells_eq, Exp.op, Exp.n, Exp.s, Exp.m, Exp.names, Exp.args]) (fun x h => Exp.lim_mk h.2.2.2.2.1 h.2.2.2.2.2.1.1 h.2.2.2.2.2.1.2)
theorem rd_exps (N : Nat) : Rd enc Try.prog W N 37 (fun l : List Exp => [exps l]) (fun l => l.length ≤ 140737488355328 ∧ ∀ v ∈ l, v.Lim) := rd_exps_of (rd_exp N)
theorem rd_flds_of {N : Nat} (h : Rd enc Try.prog W N 44 (fun v : Ty => v.cells) Ty.Lim) : Rd enc Try.prog W (N + 1) 36 (fun l : List Fld => [flds l]) (fun l => l.length ≤ 140737488355328 ∧ ∀ v ∈ l, v.2.Lim) :=
  (rd_slice ((rd_struct Try.underlying78 (by kernel_rfl) (rdFs_cons (rd_str Try.underlying9) rfl (by kernel_rfl : _ = 1) (rdFs_cons h rfl (by kernel_rfl : _ = 2) rdFs_nil))).map (fun x => ((x.1, x.2.1) : Fld)) (cells' := fun f => acells (fldAv f)) (Ok' := fun f => f.2.Lim) (fun x => by simp [Ty.cells_eq]) (fun x h => h.2.1))
    Try.underlying36 (by kernel_rfl : _ = 3) (by decide) (by kernel_rfl : _ = 48) (ev := fldAv) (elOf_agg' fun v => by rw [fldAv_eq]; rfl)).map id (fun l => by simp [flds, fldsAv_map]) (fun l h => ⟨by have := h.1; rw [reach_eq] at this; simp only [id]; omega, h.2⟩)
theorem rd_ty : ∀ N, Rd enc Try.prog W N 44 (fun v : Ty => v.cells) Ty.Lim
  | 0 => .zero
  | N + 1 => (rd_struct Try.underlying44 (by kernel_rfl) (rdFs_cons (rd_int Try.underlying3) rfl (by kernel_rfl : _ = 1) (rdFs_cons ((rd_flds_of (rd_ty N)).le (Nat.le_succ N)) rfl (by kernel_rfl : _ = 1) rdFs_nil))).map (fun x => Ty.mk x.1 x.2.1)
      (fun x => by simp [Ty.cells_eq, Ty.kind, Ty.fields]) (fun x h => Ty.lim_mk h.2.1.1 h.2.1.2)
theorem rd_flds (N : Nat) : Rd enc Try.prog W N 36 (fun l : List Fld => [flds l]) (fun l => l.length ≤ 140737488355328 ∧ ∀ v ∈ l, v.2.Lim) := (rd_flds_of (rd_ty N)).le (Nat.le_succ N)
theorem rd_fun (N : Nat) : Rd enc Try.prog W (N + 1) 48 (fun f : Fun => acells f.av) Fun.Lim :=
  (rd_struct Try.underlying48 (by kernel_rfl) (rdFs_cons (rd_str Try.underlying9) rfl (by kernel_rfl : _ = 1) (rdFs_cons (rd_bool Try.underlying4) rfl (by kernel_rfl : _ = 1) (rdFs_cons (rd_flds N) rfl (by kernel_rfl : _ = 1) (rdFs_cons (rd_ty N) rfl (by kernel_rfl : _ = 2)
    (rdFs_cons (rd_int Try.underlying3) rfl (by kernel_rfl : _ = 1) (rdFs_cons (rd_exp N) rfl (by kernel_rfl : _ = 6) rdFs_nil))))))).map (fun x => (⟨x.1, x.2.1, x.2.2.1, x.2.2.2.1, x.2.2.2.2.1, x.2.2.2.2.2.1⟩ : Fun))
    (fun x => by simp [Ty.cells_eq, Exp.cells_eq]) (fun x h => ⟨h.2.2.1.1, h.2.2.1.2, h.2.2.2.1, h.2.2.2.2.2.1⟩)
theorem rd_funs (N : Nat) : Rd enc Try.prog W N 38 (fun l : List Fun => [funs l]) (fun l => l.length ≤ 140737488355328 ∧ ∀ v ∈ l, v.Lim) :=
  ((rd_slice (rd_fun N) Try.underlying38 (by kernel_rfl : _ = 12) (by decide) (by kernel_rfl : _ = 184) (ev := Fun.av) (elOf_agg' fun v => rfl)).map id (fun l => by simp [funs]) (fun l h => ⟨by have := h.1; rw [reach_eq] at this; simp only [id]; omega, h.2⟩)).le (Nat.le_succ N)
theorem rd_mod (N : Nat) : Rd enc Try.prog W (N + 1) 42 (fun m : Mod => acells m.av) Mod.Lim :=
  (rd_struct Try.underlying42 (by kernel_rfl) (rdFs_cons (rd_str Try.underlying9) rfl (by kernel_rfl : _ = 1) (rdFs_cons (rd_strs N) rfl (by kernel_rfl : _ = 1) (rdFs_cons (rd_flds N) rfl (by kernel_rfl : _ = 1) (rdFs_cons (rd_exps N) rfl (by kernel_rfl : _ = 1)
    (rdFs_cons (rd_funs N) rfl (by kernel_rfl : _ = 1) (rdFs_cons (rd_bool Try.underlying4) rfl (by kernel_rfl : _ = 1)
    (rdFs_cons ((rd_struct Try.underlying40 (by kernel_rfl) (rdFs_cons (rd_flds N) rfl (by kernel_rfl : _ = 1) (rdFs_cons (rd_exps N) rfl (by kernel_rfl : _ = 1) (rdFs_cons (rd_exps N) rfl (by kernel_rfl : _ = 1) rdFs_nil)))).le (Nat.le_succ N)) rfl (by kernel_rfl : _ = 3) rdFs_nil)))))))).map
    (fun x => (⟨x.1, x.2.1, x.2.2.1, x.2.2.2.1, x.2.2.2.2.1, x.2.2.2.2.2.1, x.2.2.2.2.2.2.1.1, x.2.2.2.2.2.2.1.2.1, x.2.2.2.2.2.2.1.2.2.1⟩ : Mod))
    (fun x => by simp) (fun x h => ⟨by have := h.2.1; simp only; omega, h.2.2.1.1, h.2.2.1.2, h.2.2.2.1.1, h.2.2.2.1.2, h.2.2.2.2.1.1, h.2.2.2.2.1.2, h.2.2.2.2.2.2.1.1.1, h.2.2.2.2.2.2.1.1.2, h.2.2.2.2.2.2.1.2.1.1, h.2.2.2.2.2.2.1.2.1.2, h.2.2.2.2.2.2.1.2.2.1.1, h.2.2.2.2.2.2.1.2.2.1.2⟩)
theorem rd_mods (N : Nat) : Rd enc Try.prog W N 22 (fun l : List Mod => [mods l]) (fun l => l.length ≤ 140737488355328 ∧ ∀ v ∈ l, v.Lim) :=
  ((rd_slice (rd_mod N) Try.underlying22 (by kernel_rfl : _ = 9) (by decide) (by kernel_rfl : _ = 192) (ev := Mod.av) (elOf_agg' fun v => rfl)).map id (fun l => by simp [mods]) (fun l h => ⟨by have := h.1; rw [reach_eq] at this; simp only [id]; omega, h.2⟩)).le (Nat.le_succ N)
theorem rd_ref : ∀ N, Rd enc Try.prog W N 24 (fun r : Ref => acells (refA r)) (fun _ => True)
  | 0 => .zero
  | _ + 1 => (rd_struct Try.underlying24 (by kernel_rfl) (rdFs_cons (rd_str Try.underlying9) rfl (by kernel_rfl : _ = 1) (rdFs_cons (rd_str Try.underlying9) rfl (by kernel_rfl : _ = 1) rdFs_nil))).map (fun x => ((x.1, x.2.1) : Ref)) (fun x => rfl) (fun x h => trivial)
end
end Go.Proofs.Ytpnonheegflllaa
