/- For all its arguments the law ReachTells returns true and leaves them as they are: every function returns what the reference returns. No condition. -/
import Derived.Test.YtpnonheegflllaaRows
import Derived.Test.YtpnonheegflllaaOthI
import Derived.Test.YtpnonheegflllaaOpenR
import Derived.Test.YtpnonheegflllaaTp18
import Derived.JoinedOf
import Derived.ProofKit
import Derived.OpenShut
namespace Go.Proofs.Ytpnonheegflllaa.reachTells
open Go Go.Av Go.Av.Ap Go.ChangeShapes Go.WideShapes Go.ChangeAt Go.RowKit
set_option maxRecDepth 1000000
theorem own0 : ownKnob Try.prog.godebug = none := by kernel_rfl
theorem kids : Kids Try.prog (· < Try.prog.types.size) := kids_rows (by kernel_rfl) (by kernel_rfl)
theorem slices_full : ∀ t e, t < Try.prog.types.size → Try.prog.underlying t = some (.slice e) → 0 < Try.prog.cellsOf e := slices_full_of Try.prog (by kernel_rfl)
theorem contract (H : Type) (enc : TypeId × Value → H) (W : World) (base : Nat) (args : Array Value) (ds gs : List (DataW H)) (before : List MemPlace)
    (hval : ∀ (j : Nat) t v, Try.f3.params[j]? = some t → args[j]? = some v → Value.okWide Try.prog W .any base t v)
    (hW : DataW.Whole enc Try.prog Try.f3.params.toList Rows.reachTellsSpec.vars false W args.toList ds gs before)
    (hz : (DataW.weightsEach Try.prog (Try.f3.params.toList ++ Rows.reachTellsSpec.plain.varTypes Try.prog) (ds ++ gs)).all (· ≤ reachBytes) = true) :
    Calls Try.prog 3 args W fun e W' => ∃ v, e = .returned v ∧ Rows.reachTellsSpec.post enc Try.prog Try.f3 false true false false W args v W' := by
  have hW' := hW
  obtain ⟨p, q, hA0, hV, rfl, hfz, hnd⟩ := hW
  have hA : DataW.TrodAll enc Try.prog W 0 (fun _ => true) true Try.f3.params.toList args.toList ds p := hA0
  have hA1 := hA
  rw [Try.params3] at hA hval hz
  obtain ⟨v0, vs0, d0, ds0, p0, q0, ha0, rfl, rfl, h0, r0⟩ := trodAll_cons hA
  obtain ⟨v1, vs1, d1, ds1, p1, q1, ha1, rfl, rfl, h1, r1⟩ := trodAll_cons r0
  obtain ⟨v2, vs2, d2, ds2, p2, q2, ha2, rfl, rfl, h2, r2⟩ := trodAll_cons r1
  obtain ⟨hnil, rfl, rfl⟩ := trodAll_nil r2
  subst hnil
  subst ha2
  subst ha1
  obtain rfl : args = #[v0, v1, v2] := by cases args; simp_all
  obtain ⟨rfl, rfl⟩ := trodVars_none hV
  obtain ⟨x0, k0, o0⟩ := arg_slice (fun N => rd_mods N) Try.underlying22 (hval 0 22 v0 rfl rfl) h0 (each_light hz (j := 0) rfl rfl)
  obtain ⟨x1, k1, o1⟩ := arg_struct (fun N => rd_ref N) (fun a => rfl) Try.underlying24 (hval 1 24 v1 rfl rfl) h1 (each_light hz (j := 1) rfl rfl)
  obtain ⟨x2, k2, o2⟩ := arg_struct (fun N => rd_ref N) (fun a => rfl) Try.underlying24 (hval 2 24 v2 rfl rfl) h2 (each_light hz (j := 2) rfl rfl)
  clear hA0
  simp only [List.append_nil] at hW' hA1
  have hlt := hW'.lt
  have hv : VRs (allS W) [] [mods x0, refA x1, refA x2] [v0, v1, v2] := by
    simp only [VRs]
    exact ⟨_, _, rfl, k0, _, _, rfl, k1, _, _, rfl, k2, rfl⟩
  refine (law_calls good hOther trivial hv (by rw [t3 x0 o0.1 o0.2 x1 x2]; rfl)).mono fun e W' ⟨he, hb⟩ => ?_
  subst he
  exact ⟨_, rfl, post_of_below (pv := []) hW' (fun _ _ _ => trodAll_cons_mk (shut_bool Try.underlying4 _) trodAll_mk0) (fun sp hsp =>
      args_again kids slices_full (by rw [Try.params3]; decide +kernel) hA1 hlt hb sp hsp) (fun _ _ => rfl) (by simp)
    hb (ok_one (by kernel_rfl) rfl (okWide_bool_mk Try.underlying4 _))⟩
theorem lifted (os : Os) (started : os.Started) (H : Type) (enc : TypeId × Value → H) :
    ReturnsInHanded {} Try.checked os 3 .any (Rows.reachTellsSpec.pre6 enc Try.prog Try.f3 Rows.reachTellsRow.domain false) (Rows.reachTellsSpec.post enc Try.prog Try.f3 false true false false) := by
  refine returnsInHanded_of_change_sized (C := Try.checked) own0 started (by kernel_rfl) Try.func3
    (ChangeSpec.witness6 (enc := enc) (C := Try.checked) false ⟨#[], #[.slice none 0 0, .agg #[.string ⟨#[]⟩, .string ⟨#[]⟩], .agg #[.string ⟨#[]⟩, .string ⟨#[]⟩]], []⟩ 8 (by kernel_rfl) (by kernel_rfl) (by kernel_rfl) (by kernel_rfl)) ?_
  intro W base args ds gs before hval hW _ hz _
  exact contract H enc W base args ds gs before hval hW hz
theorem reachTells : Rows.ReachTellsSaid :=
  OpenClaim.holds_of_wide 3 Try.f3 rfl rfl rfl rfl rfl rfl rfl ⟨rfl, rfl, rfl, rfl, rfl⟩ rfl rfl rfl rfl rfl (by kernel_rfl) Try.func3 (by kernel_rfl)
    (of_decide_eq_true (by kernel_rfl)) (by unfold Func.isWrapper; first | (rw [if_pos (by decide +kernel)]; kernel_rfl) | (rw [if_neg (by decide +kernel)]; exact ⟨rfl, rfl⟩))
    (fun os started H enc _ => lifted os started H enc)
end Go.Proofs.Ytpnonheegflllaa.reachTells
namespace Go.Proofs.Ytpnonheegflllaa
theorem reachTells_said : Rows.ReachTellsSaid := reachTells.reachTells
end Go.Proofs.Ytpnonheegflllaa
