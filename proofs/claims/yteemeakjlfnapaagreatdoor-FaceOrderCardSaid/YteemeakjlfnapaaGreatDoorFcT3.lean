/- The limits of the statements of layer 18 answer. No condition. -/
import Derived.Test.YteemeakjlfnapaaGreatDoorFcT1
namespace Go.Proofs.YteemeakjlfnapaaGreatDoor
open Go Go.Av Go.Av.Ap
set_option maxRecDepth 100000
theorem fix_ex {F : (List AV → M AV) → List AV → M AV} (hF : ∀ vs, fixW F vs = F (fixW F) vs) (st : Nat → List AV) (n : Nat)
    (hend : ∃ b, F (fixW F) (st n) = M.pure (.bool b)) (hstep : ∀ k, k < n → (∃ b, F (fixW F) (st k) = M.pure (.bool b)) ∨ F (fixW F) (st k) = fixW F (st (k + 1))) :
    ∀ k, k ≤ n → ∃ b, fixW F (st k) = M.pure (.bool b) := by
  have key : ∀ r k, n - k = r → k ≤ n → ∃ b, fixW F (st k) = M.pure (.bool b) := by
    intro r
    induction r with
    | zero =>
      intro k hr hk
      obtain rfl : k = n := by omega
      rw [hF]
      exact hend
    | succ r ih =>
      intro k hr hk
      rw [hF]
      rcases hstep k (by omega) with h | h
      · exact h
      · rw [h]
        exact ih (k + 1) (by omega) (by omega)
  exact fun k hk => key (n - k) k rfl hk
theorem buildT1 (t : Ty) : buildSliceA T 54 1 [(0, t.av)] = some (tys [t]) := by
  have e : buildSliceA T 54 1 [(0, t.av)] = (fillEls 2 [AV.agg [.int .i64 0, .sl []]] [(0, t.av)]).map .sl := rfl
  rw [e]
  simp [fillEls, tys]
end Go.Proofs.YteemeakjlfnapaaGreatDoor
