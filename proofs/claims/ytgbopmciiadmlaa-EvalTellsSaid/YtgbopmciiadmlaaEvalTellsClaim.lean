/- For all its arguments the law EvalTells returns true and leaves them as they are: every function returns what the reference returns. No condition. -/
import Derived.Test.YtgbopmciiadmlaaRows
import Derived.Test.YtgbopmciiadmlaaTa
import Derived.Test.YtgbopmciiadmlaaTd
import Derived.JoinedOf
import Derived.ProofKit
import Derived.OpenShut
namespace Go.Proofs.Ytgbopmciiadmlaa.evalTells
open Go Go.Av Go.Av.Ap Go.ChangeShapes Go.WideShapes Go.ChangeAt Go.RowKit
set_option maxRecDepth 1000000
theorem own0 : ownKnob Try.prog.godebug = none := by kernel_rfl
theorem kids : Kids Try.prog (· < Try.prog.types.size) := kids_rows (by kernel_rfl) (by kernel_rfl)
theorem slices_full : ∀ t e, t < Try.prog.types.size → Try.prog.underlying t = some (.slice e) → 0 < Try.prog.cellsOf e := slices_full_of Try.prog (by kernel_rfl)
theorem contract (H : Type) (enc : TypeId × Value → H) (W : World) (base : Nat) (args : Array Value) (ds gs : List (DataW H)) (before : List MemPlace)
  (hval : ∀ (j : Nat) t v, Try.f3.params[j]? = some t → args[j]? = some v → Value.okWide Try.prog W .any base t v)
  (hW : DataW.Whole enc Try.prog Try.f3.params.toList Rows.evalTellsSpec.vars false W args.toList ds gs before)
  (hz : (DataW.weightsEach Try.prog (Try.f3.params.toList ++ Rows.evalTellsSpec.plain.varTypes Try.prog) (ds ++ gs)).all (· ≤ reachBytes) = true) :
  Calls Try.prog 3 args W fun e W' => ∃ v, e = .returned v ∧ Rows.evalTellsSpec.post enc Try.prog Try.f3 false true false false W args v W' := by
 have hW' := hW
 obtain ⟨p, q, hA0, hV, rfl, hfz, hnd⟩ := hW
 have hA : DataW.TrodAll enc Try.prog W 0 (fun _ => true) true Try.f3.params.toList args.toList ds p := hA0
 have hA1 := hA
 rw [Try.params3] at hA hval hz
 obtain ⟨v0, vs0, d0, ds0, p0, q0, ha0, rfl, rfl, h0, r0⟩ := trodAll_cons hA
 obtain ⟨v1, vs1, d1, ds1, p1, q1, ha1, rfl, rfl, h1, r1⟩ := trodAll_cons r0
 obtain ⟨v2, vs2, d2, ds2, p2, q2, ha2, rfl, rfl, h2, r2⟩ := trodAll_cons r1
 obtain ⟨v3, vs3, d3, ds3, p3, q3, ha3, rfl, rfl, h3, r3⟩ := trodAll_cons r2
 obtain ⟨v4, vs4, d4, ds4, p4, q4, ha4, rfl, rfl, h4, r4⟩ := trodAll_cons r3
 obtain ⟨v5, vs5, d5, ds5, p5, q5, ha5, rfl, rfl, h5, r5⟩ := trodAll_cons r4
 obtain ⟨v6, vs6, d6, ds6, p6, q6, ha6, rfl, rfl, h6, r6⟩ := trodAll_cons r5
 obtain ⟨hnil, rfl, rfl⟩ := trodAll_nil r6
 subst hnil
 subst ha6
 subst ha5
 subst ha4
 subst ha3
 subst ha2
 subst ha1
 obtain rfl : args = #[v0, v1, v2, v3, v4, v5, v6] := by cases args; simp_all
 obtain ⟨rfl, rfl⟩ := trodVars_none hV
 obtain ⟨x0, k0, o0⟩ := arg_slice (fun N => rd_mods N) Try.underlying22 (hval 0 22 v0 rfl rfl) h0 (each_light hz (j := 0) rfl rfl)
 obtain ⟨x1, k1, o1⟩ := arg_str (fun N => rd_str Try.underlying9) Try.underlying9 (hval 1 9 v1 rfl rfl) h1 (each_light hz (j := 1) rfl rfl)
 obtain ⟨x2, k2, o2⟩ := arg_str (fun N => rd_str Try.underlying9) Try.underlying9 (hval 2 9 v2 rfl rfl) h2 (each_light hz (j := 2) rfl rfl)
 obtain ⟨x3, k3, o3⟩ := arg_slice (fun N => rd_vals N) Try.underlying23 (hval 3 23 v3 rfl rfl) h3 (each_light hz (j := 3) rfl rfl)
 obtain ⟨x4, k4, o4⟩ := arg_slice (fun N => rd_ints N) Try.underlying24 (hval 4 24 v4 rfl rfl) h4 (each_light hz (j := 4) rfl rfl)
 obtain ⟨x5, k5, o5⟩ := arg_int (fun N => rd_int Try.underlying3) Try.underlying3 (hval 5 3 v5 rfl rfl) h5 (each_light hz (j := 5) rfl rfl)
 obtain ⟨x6, k6, o6⟩ := arg_struct (fun N => rd_exp N) (fun a => rfl) Try.underlying28 (hval 6 28 v6 rfl rfl) h6 (each_light hz (j := 6) rfl rfl)
 clear hA0
 simp only [List.append_nil] at hW' hA1
 have hlt := hW'.lt
 have hv : VRs (allS W) [] [mods x0, .str x1, .str x2, vals x3, ints x4, .int .i64 x5, x6.av] [v0, v1, v2, v3, v4, v5, v6] := by
  simp only [VRs]
  exact ⟨_, _, rfl, k0, _, _, rfl, k1, _, _, rfl, k2, _, _, rfl, k3, _, _, rfl, k4, _, _, rfl, k5, _, _, rfl, k6, rfl⟩
 refine (law_calls good hOther trivial hv (by rw [t3 x0 o0.1 o0.2 x1 x2 x3 o3.1 o3.2 x4 o4 x5 (bounds_i64 o5).1 (bounds_i64 o5).2 x6 o6]; rfl)).mono fun e W' ⟨he, hb⟩ => ?_
 subst he
 exact ⟨_, rfl, post_of_below (pv := []) hW' (fun _ _ _ => trodAll_cons_mk (shut_bool Try.underlying4 _) trodAll_mk0) (fun sp hsp =>
   args_again kids slices_full (by rw [Try.params3]; decide +kernel) hA1 hlt hb sp hsp) (fun _ _ => rfl) (by simp)
  hb (ok_one (by kernel_rfl) rfl (okWide_bool_mk Try.underlying4 _))⟩
theorem lifted (os : Os) (started : os.Started) (H : Type) (enc : TypeId × Value → H) :
  ReturnsInHanded {} Try.checked os 3 .any (Rows.evalTellsSpec.pre6 enc Try.prog Try.f3 Rows.evalTellsRow.domain false) (Rows.evalTellsSpec.post enc Try.prog Try.f3 false true false false) := by
 refine returnsInHanded_of_change_sized (C := Try.checked) own0 started (by kernel_rfl) Try.func3
  (ChangeSpec.witness6 (enc := enc) (C := Try.checked) false ⟨#[], #[.slice none 0 0, .string ⟨#[]⟩, .string ⟨#[]⟩, .slice none 0 0, .slice none 0 0, .int .i64 0, .agg #[.int .i64 0, .int .i64 0, .string ⟨#[]⟩, .string ⟨#[]⟩, .slice none 0 0, .slice none 0 0]], []⟩ 8 (by kernel_rfl) (by kernel_rfl) (by kernel_rfl) (by kernel_rfl)) ?_
 intro W base args ds gs before hval hW _ hz _
 exact contract H enc W base args ds gs before hval hW hz
theorem evalTells : Rows.EvalTellsSaid :=
 OpenClaim.holds_of_wide 3 Try.f3 rfl rfl rfl rfl rfl rfl rfl ⟨rfl, rfl, rfl, rfl, rfl⟩ rfl rfl rfl rfl rfl (by kernel_rfl) Try.func3 (by kernel_rfl)
  (of_decide_eq_true (by kernel_rfl)) (by unfold Func.isWrapper; first | (rw [if_pos (by decide +kernel)]; kernel_rfl) | (rw [if_neg (by decide +kernel)]; exact ⟨rfl, rfl⟩))
  (fun os started H enc _ => lifted os started H enc)
end Go.Proofs.Ytgbopmciiadmlaa.evalTells
namespace Go.Proofs.Ytgbopmciiadmlaa
theorem evalTells_said : Rows.EvalTellsSaid := evalTells.evalTells
end Go.Proofs.Ytgbopmciiadmlaa
