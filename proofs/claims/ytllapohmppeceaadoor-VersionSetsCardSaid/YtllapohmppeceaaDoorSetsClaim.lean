/- For all its arguments the law Sets returns true and leaves them as they are. Conditions: the package variables that the row lists hold what it lists, as the card ties it. -/
import Derived.Test.YtllapohmppeceaaDoorCards
import Derived.Test.YtllapohmppeceaaDoorTie
import Derived.Test.YtllapohmppeceaaDoorSlices
import Derived.Test.YtllapohmppeceaaDoorOpenVer
import Derived.Test.YtllapohmppeceaaDoorT8
import Derived.Lib.SmallJoins
namespace Go.Proofs.YtllapohmppeceaaDoor
open Go Go.Av Go.Av.Ap Go.ChangeShapes Go.WideShapes Go.ChangeAt Go.RowKit Go.Joins Go.Deep
set_option maxRecDepth 1000000
theorem sets_contract (H : Type) (enc : TypeId × Value → H) (W : World) (base : Nat) (args : Array Value) (ds gs : List (DataW H)) (before : List MemPlace)
    (hval : ∀ (j : Nat) t v, Tryd.f5.params[j]? = some t → args[j]? = some v → Value.okWide Tryd.prog W .any base t v)
    (hW : DataW.Whole enc Tryd.prog Tryd.f5.params.toList Rows.versionSetsSpec.vars false W args.toList ds gs before) (hL : laidMetH Tryd.prog Rows.versionSetsRow.laid W) (hS : W.ShapedOpen Tryd.prog) :
    Calls Tryd.prog 5 args W fun e W' => ∃ v, e = .returned v ∧ Rows.versionSetsSpec.post enc Tryd.prog Tryd.f5 false true false false W args v W' := by
  have hW' := hW
  obtain ⟨p, q, hA0, hV, rfl, hfz, hnd⟩ := hW
  have hA : DataW.TrodAll enc Tryd.prog W 0 (fun _ => true) true Tryd.f5.params.toList args.toList ds p := hA0
  have hA1 := hA
  rw [Tryd.params5] at hA hval
  obtain ⟨v0, v1, v2, d0, d1, d2, p0, p1, p2, rfl, rfl, rfl, h0, h1, h2⟩ := trodAll_three hA
  obtain ⟨rfl, rfl⟩ := trodVars_none hV
  obtain ⟨l0, k0⟩ := open_rngs (hval 0 32 v0 rfl rfl) h0
  obtain ⟨l1, k1⟩ := open_rngs (hval 1 32 v1 rfl rfl) h1
  obtain ⟨x2, rfl, _, _⟩ := open_ver (hval 2 23 v2 rfl rfl) h2
  clear hA0
  simp only [List.append_nil] at hW'
  have hlt := hW'.lt
  have hv : VRs (allS W) [] [rngs l0, rngs l1, x2.av] [v0, v1, .agg #[.int .i64 x2.a, .int .i64 x2.b, .int .i64 x2.c]] := by
    simp only [VRs]
    exact ⟨_, _, rfl, k0, _, _, rfl, k1, _, _, rfl, vr_ver _ _ x2, rfl⟩
  refine (law_calls N.good N.hOther (gok_of hL hS) hv (by rw [N.t5]; rfl)).mono fun e W' ⟨he, hb⟩ => ?_
  subst he
  exact ⟨_, rfl, post_of_below (pv := []) hW' (fun _ _ _ => trodAll_cons_mk (shut_bool Tryd.underlying4 _) trodAll_mk0) (fun sp hsp =>
      args_again kids slices_full (by rw [Tryd.params5]; decide +kernel) hA1 hlt hb sp hsp) (fun _ _ => rfl) (by simp)
    hb (ok_one (by kernel_rfl) rfl (okWide_bool_mk Tryd.underlying4 _))⟩

theorem sets_reads (os : Os) {H : Type} (enc : TypeId × Value → H) : ∃ ds places, DataW.whole enc Tryd.prog ((laidWorld os).forCall (fun _ _ => 0) ⟨#[], #[w0, w0, w3], []⟩).memory Tryd.f5.params.toList Rows.versionSetsSpec.vars false #[w0, w0, w3].toList 8 = some (ds, [], places) :=
  ⟨[.nil, .nil, .agg [.lit (.int .i64 0), .lit (.int .i64 0), .lit (.int .i64 0)]], [], by kernel_rfl⟩

theorem sets_lifted (os : Os) (started : os.Started) (H : Type) (enc : TypeId × Value → H) (F : Stop.Interp) :
    ReturnsInHanded {} Tryd.checked os 5 .any ((OpenSpec.ofChange Rows.versionSetsSpec).preRow enc Tryd.prog Tryd.f5 Rows.versionSetsRow.domain false Rows.versionSetsRow.laid) (((OpenSpec.ofChange Rows.versionSetsSpec).at F).post enc Tryd.prog Tryd.f5 false true false false) := by
  obtain ⟨ds, places, hx⟩ := sets_reads os enc
  refine returnsInHanded_of_row (C := Tryd.checked) (s := OpenSpec.ofChange Rows.versionSetsSpec) own0 started (by kernel_rfl) Tryd.func5
    (witness_row_atRef (enc := enc) (C := Tryd.checked) false (laidWorld os) #[w0, w0, w3] rfl (by kernel_rfl) (by kernel_rfl) (by kernel_rfl)
      (OpenSpec.preRow_of_cond 8 hx (by kernel_rfl) (fun k hk => by cases hk) (by kernel_rfl) (laid_met os _))) ?_
  intro W base args ds gs before hval hW _ _ _ hL hS _
  exact sets_contract H enc W base args ds gs before hval hW hL hS

theorem sets_said : Rows.VersionSetsSaid :=
  OpenClaim.holds_of_cond 5 Tryd.f5 rfl rfl rfl rfl rfl rfl rfl ⟨rfl, rfl, rfl, rfl, rfl⟩ rfl rfl rfl rfl rfl (by kernel_rfl) Tryd.func5 (by kernel_rfl)
    (of_decide_eq_true (by kernel_rfl)) (by unfold Func.isWrapper; first | (rw [if_pos (by decide +kernel)]; kernel_rfl) | (rw [if_neg (by decide +kernel)]; exact ⟨rfl, rfl⟩))
    (fun os started H enc _ F => by rw [OpenClaim.pre_eq_preRow]; exact sets_lifted os started H enc F)

theorem sets_plain (f : FuncId) (fn : Func) (hf : Tryd.pinned.checked.prog.funcNamed "lading/ladinglaw12.VersionSets" = some f) (hfn : Tryd.pinned.checked.prog.funcs[f]? = some fn) :
    true = Tryd.pinned.checked.prog.looks [] ∧ ∀ (j : Nat) t, fn.params[j]? = some t → Tryd.pinned.checked.prog.wantsStandIn t = false := by
  obtain rfl : f = 5 := Option.some.inj ((show Tryd.prog.funcNamed "lading/ladinglaw12.VersionSets" = some 5 by kernel_rfl).symm.trans hf) |>.symm
  obtain rfl : fn = Tryd.f5 := (Option.some.inj (Tryd.func5.symm.trans hfn)).symm
  refine ⟨by kernel_rfl, fun j t ht => ?_⟩
  rw [Tryd.params5] at ht
  have ht' : t = 23 ∨ t = 32 := by
    have := Array.mem_of_getElem? ht
    simp only [List.mem_toArray, List.mem_cons, List.not_mem_nil, or_false] at this
    rcases this with rfl | rfl | rfl <;> simp
  rcases ht' with rfl | rfl
  · exact (show Tryd.prog.wantsStandIn 23 = false by kernel_rfl)
  · exact (show Tryd.prog.wantsStandIn 32 = false by kernel_rfl)

theorem sets_card : Rows.VersionSetsCardSaid :=
  Claim7.holds_tied_plain_at .later [] _ _ _ _ sets_said (fun _ h => by cases h) (by kernel_rfl) (fun _ h => by cases h) versionSets_row_tie rfl ⟨rfl, rfl⟩ (by kernel_rfl) rfl sets_plain (by kernel_rfl)
end Go.Proofs.YtllapohmppeceaaDoor
