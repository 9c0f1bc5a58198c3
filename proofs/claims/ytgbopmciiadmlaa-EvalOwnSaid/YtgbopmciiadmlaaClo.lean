/- slices.Clone. No condition. -/
import Derived.Test.YtgbopmciiadmlaaGood
import Derived.Test.YtgbopmciiadmlaaLc
namespace Go.Proofs.Ytgbopmciiadmlaa
open Go Go.Av
set_option maxRecDepth 100000
noncomputable def cx0 (n : Nat) (a : Ann) : Cx := { T := T, call := fun _ _ => M.fail, own := own, iso := fun _ => false, nw := fun _ => false, nt := n, ann := a }
theorem cx0_calls (n : Nat) (a : Ann) : CallsOK Try.prog (cx0 n a).own (cx0 n a).call := fun f args h S β w vs hr => absurd rfl hr
theorem cx0_iso (n : Nat) (a : Ann) : IsoCall (cx0 n a) := ⟨fun f args h => Bool.noConfusion h, fun f args h => Bool.noConfusion h⟩
theorem e39a (e : AV) (es : List AV) : evBody (cx0 Try.f39.ntmps ann39) (fixM 0) Try.f39 none [.sl (e :: es)] = bnd (appH T 23 true (.sl []) (.sl (e :: es))) fun v => bnd (lft (some v)) M.pure := by kernel_rfl
theorem e39b : evBody (cx0 Try.f39.ntmps ann39) (fixM 0) Try.f39 none [.hn] = bnd (lft (some (.sl []))) M.pure := by kernel_rfl
theorem e39c (l off : Nat) : evBody (cx0 Try.f39.ntmps ann39) (fixM 0) Try.f39 none [.hs l off 0 1 false] = bnd (appH T 23 true (.sl []) (.hs l off 0 1 false)) fun v => bnd (lft (some v)) M.pure := by kernel_rfl
theorem e96a (e : AV) (es : List AV) : evBody (cx0 Try.f96.ntmps ann96) (fixM 0) Try.f96 none [.sl (e :: es)] = bnd (lft (appA T 25 (.sl []) (.sl (e :: es)))) fun v => bnd (lft (some v)) M.pure := by kernel_rfl
theorem e96b : evBody (cx0 Try.f96.ntmps ann96) (fixM 0) Try.f96 none [.hn] = bnd (lft (some (.sl []))) M.pure := by kernel_rfl
theorem e96c (l off : Nat) : evBody (cx0 Try.f96.ntmps ann96) (fixM 0) Try.f96 none [.hs l off 0 1 false] = bnd (lft (appA T 25 (.sl []) (.hs l off 0 1 false))) fun v => bnd (lft (some v)) M.pure := by kernel_rfl
theorem e96d (l off : Nat) : appA T 25 (.sl []) (.hs l off 0 1 false) = some (.sl []) := by rfl
theorem oth39 (call : FuncId → List AV → M AV) (args : List AV) (h : Hp) (S : Stab) (β : List Blk) (w : World) (vs : List Value) (hr : cloneH T 23 call args h ≠ .fail) (hg : GOK β h w) (hw : Wf S w) (hh : HeapX S β w h) (hv : VRs S β args vs) :
    Calls Try.prog 39 vs.toArray w (CPost none S β h w (cloneH T 23 call args h)) := by
  have key : ∀ es, args = [.sl es] → Calls Try.prog 39 vs.toArray w (CPost none S β h w (cloneH T 23 call args h)) := by
    rintro es rfl
    exact (clone_sound (cx := cx0 Try.f39.ntmps ann39) (E := fun es h => cloneH T 23 call [.sl es] h) tok (cx0_calls _ _) (cx0_iso _ _) Try.func39 rfl (fun h => by rfl) (fun e es h => by rw [e39a]; exact congrFun (bnd_id _) h) (fun h => by rw [e39b]; rfl) (fun l off h => by rw [e39c]; rfl) hr hg hw hh hv).1
  unfold cloneH at hr
  split at hr
  · exact key _ rfl
  · exact absurd rfl hr
theorem oth96 (call : FuncId → List AV → M AV) (args : List AV) (h : Hp) (S : Stab) (β : List Blk) (w : World) (vs : List Value) (hr : cloneV T 25 call args h ≠ .fail) (hg : GOK β h w) (hw : Wf S w) (hh : HeapX S β w h) (hv : VRs S β args vs) :
    Calls Try.prog 96 vs.toArray w (CPost none S β h w (cloneV T 25 call args h)) := by
  have key : ∀ es, args = [.sl es] → Calls Try.prog 96 vs.toArray w (CPost none S β h w (cloneV T 25 call args h)) := by
    rintro es rfl
    exact (clone_sound (cx := cx0 Try.f96.ntmps ann96) (E := fun es h => cloneV T 25 call [.sl es] h) tok (cx0_calls _ _) (cx0_iso _ _) Try.func96 rfl (fun h => by rfl) (fun e es h => by rw [e96a]; exact congrFun (bnd_id _) h) (fun h => by rw [e96b]; rfl) (fun l off h => by rw [e96c, e96d]; rfl) hr hg hw hh hv).1
  unfold cloneV at hr
  split at hr
  · exact key _ rfl
  · exact absurd rfl hr
end Go.Proofs.Ytgbopmciiadmlaa
