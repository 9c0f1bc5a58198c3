/- slices.Clone. No condition. -/
import Derived.Test.YteemeakjlfnapaaGreatDoorGood
import Derived.Test.YteemeakjlfnapaaGreatDoorLd
namespace Go.Proofs.YteemeakjlfnapaaGreatDoor
open Go Go.Av
set_option maxRecDepth 100000
noncomputable def cx0 (n : Nat) (a : Ann) : Cx := { T := T, call := fun _ _ => M.fail, own := own, iso := fun _ => false, nw := fun _ => false, nt := n, ann := a }
theorem cx0_calls (n : Nat) (a : Ann) : CallsOK Tryz.prog (cx0 n a).own (cx0 n a).call := fun f args h S β w vs hr => absurd rfl hr
theorem cx0_iso (n : Nat) (a : Ann) : IsoCall (cx0 n a) := ⟨fun f args h => Bool.noConfusion h, fun f args h => Bool.noConfusion h⟩
theorem e103a (e : AV) (es : List AV) : evBody (cx0 Tryz.f103.ntmps ann103) (fixM 0) Tryz.f103 none [.sl (e :: es)] = bnd (appH T 54 true (.sl []) (.sl (e :: es))) fun v => bnd (lft (some v)) M.pure := by kernel_rfl
theorem e103b : evBody (cx0 Tryz.f103.ntmps ann103) (fixM 0) Tryz.f103 none [.hn] = bnd (lft (some (.sl []))) M.pure := by kernel_rfl
theorem e103c (l off : Nat) : evBody (cx0 Tryz.f103.ntmps ann103) (fixM 0) Tryz.f103 none [.hs l off 0 1 false] = bnd (appH T 54 true (.sl []) (.hs l off 0 1 false)) fun v => bnd (lft (some v)) M.pure := by kernel_rfl
theorem oth103 (call : FuncId → List AV → M AV) (args : List AV) (h : Hp) (S : Stab) (β : List Blk) (w : World) (vs : List Value) (hr : cloneH T 54 call args h ≠ .fail) (hg : GOK β h w) (hw : Wf S w) (hh : HeapX S β w h) (hv : VRs S β args vs) :
    Calls Tryz.prog 103 vs.toArray w (CPost none S β h w (cloneH T 54 call args h)) := by
  have key : ∀ es, args = [.sl es] → Calls Tryz.prog 103 vs.toArray w (CPost none S β h w (cloneH T 54 call args h)) := by
    rintro es rfl
    exact (clone_sound (cx := cx0 Tryz.f103.ntmps ann103) (E := fun es h => cloneH T 54 call [.sl es] h) tok (cx0_calls _ _) (cx0_iso _ _) Tryz.func103 rfl (fun h => by rfl) (fun e es h => by rw [e103a]; exact congrFun (bnd_id _) h) (fun h => by rw [e103b]; rfl) (fun l off h => by rw [e103c]; rfl) hr hg hw hh hv).1
  unfold cloneH at hr
  split at hr
  · exact key _ rfl
  · exact absurd rfl hr
theorem e163a (e : AV) (es : List AV) : evBody (cx0 Tryz.f163.ntmps ann163) (fixM 0) Tryz.f163 none [.sl (e :: es)] = bnd (appH T 25 true (.sl []) (.sl (e :: es))) fun v => bnd (lft (some v)) M.pure := by kernel_rfl
theorem e163b : evBody (cx0 Tryz.f163.ntmps ann163) (fixM 0) Tryz.f163 none [.hn] = bnd (lft (some (.sl []))) M.pure := by kernel_rfl
theorem e163c (l off : Nat) : evBody (cx0 Tryz.f163.ntmps ann163) (fixM 0) Tryz.f163 none [.hs l off 0 1 false] = bnd (appH T 25 true (.sl []) (.hs l off 0 1 false)) fun v => bnd (lft (some v)) M.pure := by kernel_rfl
theorem oth163 (call : FuncId → List AV → M AV) (args : List AV) (h : Hp) (S : Stab) (β : List Blk) (w : World) (vs : List Value) (hr : cloneH T 25 call args h ≠ .fail) (hg : GOK β h w) (hw : Wf S w) (hh : HeapX S β w h) (hv : VRs S β args vs) :
    Calls Tryz.prog 163 vs.toArray w (CPost none S β h w (cloneH T 25 call args h)) := by
  have key : ∀ es, args = [.sl es] → Calls Tryz.prog 163 vs.toArray w (CPost none S β h w (cloneH T 25 call args h)) := by
    rintro es rfl
    exact (clone_sound (cx := cx0 Tryz.f163.ntmps ann163) (E := fun es h => cloneH T 25 call [.sl es] h) tok (cx0_calls _ _) (cx0_iso _ _) Tryz.func163 rfl (fun h => by rfl) (fun e es h => by rw [e163a]; exact congrFun (bnd_id _) h) (fun h => by rw [e163b]; rfl) (fun l off h => by rw [e163c]; rfl) hr hg hw hh hv).1
  unfold cloneH at hr
  split at hr
  · exact key _ rfl
  · exact absurd rfl hr
end Go.Proofs.YteemeakjlfnapaaGreatDoor
