/- For all its arguments the law Newest returns true and leaves them as they are. Conditions: the package variables that the row lists hold what it lists, as the card ties it. -/
import Derived.Test.YtllapohmppeceaaDoorCards
import Derived.Test.YtllapohmppeceaaDoorTie
import Derived.Test.YtllapohmppeceaaDoorSlices
import Derived.Test.YtllapohmppeceaaDoorOpenVer
import Derived.Test.YtllapohmppeceaaDoorT9
import Derived.Lib.SmallJoins
namespace Go.Proofs.YtllapohmppeceaaDoor
open Go Go.Av Go.Av.Ap Go.ChangeShapes Go.WideShapes Go.ChangeAt Go.RowKit Go.Joins Go.Deep
set_option maxRecDepth 1000000
theorem newest_contract (H : Type) (enc : TypeId × Value → H) (W : World) (base : Nat) (args : Array Value) (ds gs : List (DataW H)) (before : List MemPlace)
    (hval : ∀ (j : Nat) t v, Tryd.f7.params[j]? = some t → args[j]? = some v → Value.okWide Tryd.prog W .any base t v)
    (hW : DataW.Whole enc Tryd.prog Tryd.f7.params.toList Rows.versionNewestSpec.vars false W args.toList ds gs before) (hL : laidMetH Tryd.prog Rows.versionNewestRow.laid W) (hS : W.ShapedOpen Tryd.prog) :
    Calls Tryd.prog 7 args W fun e W' => ∃ v, e = .returned v ∧ Rows.versionNewestSpec.post enc Tryd.prog Tryd.f7 false true false false W args v W' := by
  have hW' := hW
  obtain ⟨p, q, hA0, hV, rfl, hfz, hnd⟩ := hW
  have hA : DataW.TrodAll enc Tryd.prog W 0 (fun _ => true) true Tryd.f7.params.toList args.toList ds p := hA0
  have hA1 := hA
  rw [Tryd.params7] at hA hval
  obtain ⟨v0, v1, v2, d0, d1, d2, p0, p1, p2, rfl, rfl, rfl, h0, h1, h2⟩ := trodAll_three hA
  obtain ⟨rfl, rfl⟩ := trodVars_none hV
  obtain ⟨l0, k0⟩ := open_vers (hval 0 42 v0 rfl rfl) h0
  obtain ⟨l1, k1⟩ := open_rngs (hval 1 32 v1 rfl rfl) h1
  obtain ⟨l2, k2⟩ := open_rngs (hval 2 32 v2 rfl rfl) h2
  clear hA0
  simp only [List.append_nil] at hW'
  have hlt := hW'.lt
  have hv : VRs (allS W) [] [vers l0, rngs l1, rngs l2] [v0, v1, v2] := by
    simp only [VRs]
    exact ⟨_, _, rfl, k0, _, _, rfl, k1, _, _, rfl, k2, rfl⟩
  refine (law_calls N.good N.hOther (gok_of hL hS) hv (by rw [N.t7]; rfl)).mono fun e W' ⟨he, hb⟩ => ?_
  subst he
  exact ⟨_, rfl, post_of_below (pv := []) hW' (fun _ _ _ => trodAll_cons_mk (shut_bool Tryd.underlying4 _) trodAll_mk0) (fun sp hsp =>
      args_again kids slices_full (by rw [Tryd.params7]; decide +kernel) hA1 hlt hb sp hsp) (fun _ _ => rfl) (by simp)
    hb (ok_one (by kernel_rfl) rfl (okWide_bool_mk Tryd.underlying4 _))⟩

theorem newest_reads (os : Os) {H : Type} (enc : TypeId × Value → H) : ∃ ds places, DataW.whole enc Tryd.prog ((laidWorld os).forCall (fun _ _ => 0) ⟨#[], #[w0, w0, w0], []⟩).memory Tryd.f7.params.toList Rows.versionNewestSpec.vars false #[w0, w0, w0].toList 8 = some (ds, [], places) :=
  ⟨[.nil, .nil, .nil], [], by kernel_rfl⟩

theorem newest_lifted (os : Os) (started : os.Started) (H : Type) (enc : TypeId × Value → H) (F : Stop.Interp) :
    ReturnsInHanded {} Tryd.checked os 7 .any ((OpenSpec.ofChange Rows.versionNewestSpec).preRow enc Tryd.prog Tryd.f7 Rows.versionNewestRow.domain false Rows.versionNewestRow.laid) (((OpenSpec.ofChange Rows.versionNewestSpec).at F).post enc Tryd.prog Tryd.f7 false true false false) := by
  obtain ⟨ds, places, hx⟩ := newest_reads os enc
  refine returnsInHanded_of_row (C := Tryd.checked) (s := OpenSpec.ofChange Rows.versionNewestSpec) own0 started (by kernel_rfl) Tryd.func7
    (witness_row_atRef (enc := enc) (C := Tryd.checked) false (laidWorld os) #[w0, w0, w0] rfl (by kernel_rfl) (by kernel_rfl) (by kernel_rfl)
      (OpenSpec.preRow_of_cond 8 hx (by kernel_rfl) (fun k hk => by cases hk) (by kernel_rfl) (laid_met os _))) ?_
  intro W base args ds gs before hval hW _ _ _ hL hS _
  exact newest_contract H enc W base args ds gs before hval hW hL hS

theorem newest_said : Rows.VersionNewestSaid :=
  OpenClaim.holds_of_cond 7 Tryd.f7 rfl rfl rfl rfl rfl rfl rfl ⟨rfl, rfl, rfl, rfl, rfl⟩ rfl rfl rfl rfl rfl (by kernel_rfl) Tryd.func7 (by kernel_rfl)
    (of_decide_eq_true (by kernel_rfl)) (by unfold Func.isWrapper; first | (rw [if_pos (by decide +kernel)]; kernel_rfl) | (rw [if_neg (by decide +kernel)]; exact ⟨rfl, rfl⟩))
    (fun os started H enc _ F => by rw [OpenClaim.pre_eq_preRow]; exact newest_lifted os started H enc F)

theorem newest_plain (f : FuncId) (fn : Func) (hf : Tryd.pinned.checked.prog.funcNamed "lading/ladinglaw12.VersionNewest" = some f) (hfn : Tryd.pinned.checked.prog.funcs[f]? = some fn) :
    true = Tryd.pinned.checked.prog.looks [] ∧ ∀ (j : Nat) t, fn.params[j]? = some t → Tryd.pinned.checked.prog.wantsStandIn t = false := by
  obtain rfl : f = 7 := Option.some.inj ((show Tryd.prog.funcNamed "lading/ladinglaw12.VersionNewest" = some 7 by kernel_rfl).symm.trans hf) |>.symm
  obtain rfl : fn = Tryd.f7 := (Option.some.inj (Tryd.func7.symm.trans hfn)).symm
  refine ⟨by kernel_rfl, fun j t ht => ?_⟩
  rw [Tryd.params7] at ht
  have ht' : t = 32 ∨ t = 42 := by
    have := Array.mem_of_getElem? ht
    simp only [List.mem_toArray, List.mem_cons, List.not_mem_nil, or_false] at this
    rcases this with rfl | rfl | rfl <;> simp
  rcases ht' with rfl | rfl
  · exact (show Tryd.prog.wantsStandIn 32 = false by kernel_rfl)
  · exact (show Tryd.prog.wantsStandIn 42 = false by kernel_rfl)

theorem newest_card : Rows.VersionNewestCardSaid :=
  Claim7.holds_tied_plain_at .later [] _ _ _ _ newest_said (fun _ h => by cases h) (by kernel_rfl) (fun _ h => by cases h) versionNewest_row_tie rfl ⟨rfl, rfl⟩ (by kernel_rfl) rfl newest_plain (by kernel_rfl)
end Go.Proofs.YtllapohmppeceaaDoor
