/- The law CompatTells answers true. No condition. -/
import Derived.Test.YteemeakjlfnapaaGreatDoorCli18
import Derived.Test.YteemeakjlfnapaaGreatDoorSame15
import Derived.Test.YteemeakjlfnapaaGreatDoorVer18
namespace Go.Proofs.YteemeakjlfnapaaGreatDoor
open Go Go.Av Go.Av.Ap
set_option maxRecDepth 100000
theorem lim_witW (t : Ty) : (witW t).Lim := by
  unfold witW
  split
  · rename_i h
    exact lim_wit 4 t h
  · intro n
    cases n with
    | zero => exact trivial
    | succ n => exact ⟨by simp [Exp.names], by simp [Exp.args], fun x hx => by simp [Exp.args] at hx⟩
theorem t3 (a b : Face) (t : Ty) (v w : Vsn) (c : Int) (ha : a.Lim) (hb : b.Lim) (ht : t.Lim) (hea : Face.Eff a) (heb : Face.Eff b) : callW pg 3 [a.av, b.av, t.av, v.av, w.av, .int .i64 c] = M.pure (.bool true) := by
  rw [C3]
  obtain ⟨p, hp⟩ := ex15 a ha
  obtain ⟨q, hq⟩ := ex15 b hb
  obtain ⟨r, hr⟩ := ex16 t ht
  cases p with
  | false => simp [S3, small18_W, hp]
  | true =>
    cases q with
    | false => simp [S3, small18_W, hp, hq]
    | true =>
      cases r with
      | false => simp [S3, small18_W, hp, hq, hr]
      | true =>
        have h1 := t17 a b ha hb
        have h2 := t18 a b ha hb hea heb
        have h3 := t19 a b ha hb
        have h4 := t20 a b ha hb hea heb
        obtain ⟨m, is, hc, hml⟩ := cliR_mod a b ha
        rw [hc] at h3 h4
        have h5 := t21 m hml
        have h6 := t23 t ht
        have h7 := t24 t ht
        have h8 := t22 _ (witW t) (Nat.le_refl _) (lim_witW t)
        have h9 := x25 v w c
        have h10 := x26 v w c
        have hcm : cellsM 9 m.av = M.pure m.av := by rw [cellsM_of (okEl_mod m), acells_mod, fold_mod]
        have hld : loadA T 41 (.ip (acells m.av)) = some m.av := rfl
        generalize (decide (0 ≤ c) && decide (c ≤ 2) && decide (c < bumpF v w)) = cl1 at h9 h10
        generalize (compareF a b).1 = k1 at h1 h2
        generalize (compareF a b).2 = s1 at h1 h2
        simp [S3, small18_W, hp, hq, hr, h1, h2, h3, h4, h5, h6, h7, h8, h9, h10, hcm, hld, -acells_mod, -LD41]
end Go.Proofs.YteemeakjlfnapaaGreatDoor
