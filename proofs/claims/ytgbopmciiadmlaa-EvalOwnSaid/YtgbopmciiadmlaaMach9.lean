/- eval and enter compute the meaning. Conditions: the bounds of the program. -/
import Derived.Test.YtgbopmciiadmlaaMach8
namespace Go.Proofs.Ytgbopmciiadmlaa
open Go Go.Av Go.Av.Ap
theorem evOK {p : List Mod} {nm : SNm} (LB : LimB p) : ∀ n, EvOK p nm n
  | 0 => fun own ns vs e m h R G hn hs he => ⟨h, ev_low R (by omega) _ e, R⟩
  | n + 1 => by
    have IH := evOK (nm := nm) LB n
    exact eval_step IH (t78 IH) (t80 LB IH) (t81 LB IH)
theorem enterOK {p : List Mod} {nm : SNm} (LB : LimB p) (n : Nat) : EnterOK p nm n := t42 LB (evOK LB n)
end Go.Proofs.Ytgbopmciiadmlaa
