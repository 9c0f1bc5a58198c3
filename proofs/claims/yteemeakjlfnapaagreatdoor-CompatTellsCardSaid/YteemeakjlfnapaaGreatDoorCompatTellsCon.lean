/- The law CompatTells: it returns true and leaves its arguments as they are, as a contract. Conditions: the package variables that the row lists hold what it lists, as the card ties it. -/
import Derived.Test.YteemeakjlfnapaaGreatDoorRows
import Derived.Test.YteemeakjlfnapaaGreatDoorGok18
import Derived.Test.YteemeakjlfnapaaGreatDoorOpenH
import Derived.Test.YteemeakjlfnapaaGreatDoorLawCompatTells
import Derived.Lib.SmallJoins
namespace Go.Proofs.YteemeakjlfnapaaGreatDoor.compatTells
open Go Go.Av Go.Av.Ap Go.ChangeShapes Go.WideShapes Go.ChangeAt Go.RowKit Go.Joins Go.Deep
set_option maxRecDepth 1000000
theorem kids : Kids Tryz.prog (· < Tryz.prog.types.size) := kids_rows (by kernel_rfl) (by kernel_rfl)
theorem slices_full : ∀ t e, t < Tryz.prog.types.size → Tryz.prog.underlying t = some (.slice e) → 0 < Tryz.prog.cellsOf e := slices_full_of Tryz.prog (by kernel_rfl)
theorem contract (H : Type) (enc : TypeId × Value → H) (W : World) (base : Nat) (args : Array Value) (ds gs : List (DataW H)) (before : List MemPlace)
    (hval : ∀ (j : Nat) t v, Tryz.f3.params[j]? = some t → args[j]? = some v → Value.okWide Tryz.prog W .any base t v)
    (hW : DataW.Whole enc Tryz.prog Tryz.f3.params.toList Rows.compatTellsSpec.vars false W args.toList ds gs before)
    (hz : (DataW.weightsEach Tryz.prog (Tryz.f3.params.toList ++ Rows.compatTellsSpec.plain.varTypes Tryz.prog) (ds ++ gs)).all (· ≤ reachBytes) = true) (hL : laidMetH Tryz.prog Rows.compatTellsRow.laid W) (hS : W.ShapedOpen Tryz.prog) :
    Calls Tryz.prog 3 args W fun e W' => ∃ v, e = .returned v ∧ Rows.compatTellsSpec.post enc Tryz.prog Tryz.f3 false true false false W args v W' := by
  have hW' := hW
  obtain ⟨p, q, hA0, hV, rfl, hfz, hnd⟩ := hW
  have hA : DataW.TrodAll enc Tryz.prog W 0 (fun _ => true) true Tryz.f3.params.toList args.toList ds p := hA0
  have hA1 := hA
  rw [Tryz.params3] at hA hval hz
  obtain ⟨v0, vs0, d0, ds0, p0, q0, ha0, rfl, rfl, h0, r0⟩ := trodAll_cons hA
  obtain ⟨v1, vs1, d1, ds1, p1, q1, ha1, rfl, rfl, h1, r1⟩ := trodAll_cons r0
  obtain ⟨v2, vs2, d2, ds2, p2, q2, ha2, rfl, rfl, h2, r2⟩ := trodAll_cons r1
  obtain ⟨v3, vs3, d3, ds3, p3, q3, ha3, rfl, rfl, h3, r3⟩ := trodAll_cons r2
  obtain ⟨v4, vs4, d4, ds4, p4, q4, ha4, rfl, rfl, h4, r4⟩ := trodAll_cons r3
  obtain ⟨v5, vs5, d5, ds5, p5, q5, ha5, rfl, rfl, h5, r5⟩ := trodAll_cons r4
  obtain ⟨hnil, rfl, rfl⟩ := trodAll_nil r5
  subst hnil
  subst ha5
  subst ha4
  subst ha3
  subst ha2
  subst ha1
  obtain rfl : args = #[v0, v1, v2, v3, v4, v5] := by cases args; simp_all
  obtain ⟨rfl, rfl⟩ := trodVars_none hV
  obtain ⟨x0, k0, o0⟩ := arg_struct (fun N => (rd_faceE N).le (Nat.le_succ N)) (fun a => rfl) Tryz.underlying24 (hval 0 24 v0 rfl rfl) h0 (each_light hz (j := 0) rfl rfl)
  obtain ⟨x1, k1, o1⟩ := arg_struct (fun N => (rd_faceE N).le (Nat.le_succ N)) (fun a => rfl) Tryz.underlying24 (hval 1 24 v1 rfl rfl) h1 (each_light hz (j := 1) rfl rfl)
  obtain ⟨x2, k2, o2⟩ := arg_struct (fun N => rd_ty N) (fun a => rfl) Tryz.underlying27 (hval 2 27 v2 rfl rfl) h2 (each_light hz (j := 2) rfl rfl)
  obtain ⟨x3, k3, o3⟩ := arg_struct (fun N => (rd_vsn N).le (Nat.le_succ N)) (fun a => rfl) Tryz.underlying29 (hval 3 29 v3 rfl rfl) h3 (each_light hz (j := 3) rfl rfl)
  obtain ⟨x4, k4, o4⟩ := arg_struct (fun N => (rd_vsn N).le (Nat.le_succ N)) (fun a => rfl) Tryz.underlying29 (hval 4 29 v4 rfl rfl) h4 (each_light hz (j := 4) rfl rfl)
  obtain ⟨x5, k5, o5⟩ := arg_int (fun N => rd_int Tryz.underlying3) Tryz.underlying3 (hval 5 3 v5 rfl rfl) h5 (each_light hz (j := 5) rfl rfl)
  clear hA0
  simp only [List.append_nil] at hW' hA1
  have hlt := hW'.lt
  have hv : VRs (allS W) [] [x0.av, x1.av, x2.av, x3.av, x4.av, .int .i64 x5] [v0, v1, v2, v3, v4, v5] := by
    simp only [VRs]
    exact ⟨_, _, rfl, k0, _, _, rfl, k1, _, _, rfl, k2, _, _, rfl, k3, _, _, rfl, k4, _, _, rfl, k5, rfl⟩
  refine (law_calls good hOther (gok_of hL hS) hv (by rw [t3 x0 x1 x2 x3 x4 x5 o0.1 o1.1 o2 o0.2 o1.2]; rfl)).mono fun e W' ⟨he, hb⟩ => ?_
  subst he
  exact ⟨_, rfl, post_of_below (pv := []) hW' (fun _ _ _ => trodAll_cons_mk (shut_bool Tryz.underlying4 _) trodAll_mk0) (fun sp hsp =>
      args_again kids slices_full (by rw [Tryz.params3]; decide +kernel) hA1 hlt hb sp hsp) (fun _ _ => rfl) (by simp)
    hb (ok_one (by kernel_rfl) rfl (okWide_bool_mk Tryz.underlying4 _))⟩
end Go.Proofs.YteemeakjlfnapaaGreatDoor.compatTells
