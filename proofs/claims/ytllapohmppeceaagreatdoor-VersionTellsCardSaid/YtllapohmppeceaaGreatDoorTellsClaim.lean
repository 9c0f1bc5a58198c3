/- For all its arguments the law Tells returns true and leaves them as they are. Conditions: the package variables that the row lists hold what it lists, as the card ties it. -/
import Derived.Test.YtllapohmppeceaaGreatDoorCards
import Derived.Test.YtllapohmppeceaaGreatDoorTie
import Derived.Test.YtllapohmppeceaaGreatDoorSlices
import Derived.Test.YtllapohmppeceaaGreatDoorOpenVer
import Derived.Test.YtllapohmppeceaaGreatDoorR6
import Derived.Lib.SmallJoins
namespace Go.Proofs.YtllapohmppeceaaGreatDoor
open Go Go.Av Go.Av.Ap Go.ChangeShapes Go.WideShapes Go.ChangeAt Go.RowKit Go.Joins Go.Deep
open Go.ChangeMaps (open_string)
set_option maxRecDepth 1000000
theorem tells_contract (H : Type) (enc : TypeId × Value → H) (W : World) (base : Nat) (args : Array Value) (ds gs : List (DataW H)) (before : List MemPlace)
    (hval : ∀ (j : Nat) t v, Tryz.f3.params[j]? = some t → args[j]? = some v → Value.okWide Tryz.prog W .any base t v)
    (hW : DataW.Whole enc Tryz.prog Tryz.f3.params.toList Rows.versionTellsSpec.vars false W args.toList ds gs before) (hL : laidMetH Tryz.prog Rows.versionTellsRow.laid W) (hS : W.ShapedOpen Tryz.prog) :
    Calls Tryz.prog 3 args W fun e W' => ∃ v, e = .returned v ∧ Rows.versionTellsSpec.post enc Tryz.prog Tryz.f3 false true false false W args v W' := by
  have hW' := hW
  obtain ⟨p, q, hA0, hV, rfl, hfz, hnd⟩ := hW
  have hA : DataW.TrodAll enc Tryz.prog W 0 (fun _ => true) true Tryz.f3.params.toList args.toList ds p := hA0
  have hA1 := hA
  rw [Tryz.params3] at hA hval
  obtain ⟨v0, vs0, d0, ds0, p0, q0, ha0, rfl, rfl, h0, r0⟩ := trodAll_cons hA
  obtain ⟨v1, vs1, d1, ds1, p1, q1, ha1, rfl, rfl, h1, r1⟩ := trodAll_cons r0
  obtain ⟨v2, vs2, d2, ds2, p2, q2, ha2, rfl, rfl, h2, r2⟩ := trodAll_cons r1
  obtain ⟨v3, vs3, d3, ds3, p3, q3, ha3, rfl, rfl, h3, r3⟩ := trodAll_cons r2
  obtain ⟨v4, vs4, d4, ds4, p4, q4, ha4, rfl, rfl, h4, r4⟩ := trodAll_cons r3
  obtain ⟨v5, vs5, d5, ds5, p5, q5, ha5, rfl, rfl, h5, r5⟩ := trodAll_cons r4
  obtain ⟨hnil, rfl, rfl⟩ := trodAll_nil r5
  subst hnil
  subst ha5
  subst ha4
  subst ha3
  subst ha2
  subst ha1
  obtain rfl : args = #[v0, v1, v2, v3, v4, v5] := by cases args; simp_all
  obtain ⟨rfl, rfl⟩ := trodVars_none hV
  obtain ⟨x0, rfl, _, _⟩ := open_ver (hval 0 23 v0 rfl rfl) h0
  obtain ⟨x1, rfl, _, _⟩ := open_ver (hval 1 23 v1 rfl rfl) h1
  obtain ⟨s2, rfl, rfl, rfl, hs2⟩ := open_string Tryz.underlying9 (hval 2 9 v2 rfl rfl) h2
  obtain ⟨l3, k3⟩ := open_rngs (hval 3 24 v3 rfl rfl) h3
  obtain ⟨l4, k4⟩ := open_rngs (hval 4 24 v4 rfl rfl) h4
  obtain ⟨l5, k5⟩ := open_vers (hval 5 25 v5 rfl rfl) h5
  clear hA0
  simp only [List.append_nil] at hW' hA1
  have hlt := hW'.lt
  have hv : VRs (allS W) [] [x0.av, x1.av, .str s2.data.toList, rngs l3, rngs l4, vers l5] [.agg #[.int .i64 x0.a, .int .i64 x0.b, .int .i64 x0.c], .agg #[.int .i64 x1.a, .int .i64 x1.b, .int .i64 x1.c], .string s2, v3, v4, v5] := by
    simp only [VRs]
    exact ⟨_, _, rfl, vr_ver _ _ x0, _, _, rfl, vr_ver _ _ x1, _, _, rfl, (show VR _ _ (.str _) _ from by simp only [VR]; exact ⟨s2, rfl, rfl⟩), _, _, rfl, k3, _, _, rfl, k4, _, _, rfl, k5, rfl⟩
  refine (law_calls N.good N.hOther (gok_of hL hS) hv (by rw [N.t3]; rfl)).mono fun e W' ⟨he, hb⟩ => ?_
  subst he
  exact ⟨_, rfl, post_of_below (pv := []) hW' (fun _ _ _ => trodAll_cons_mk (shut_bool Tryz.underlying4 _) trodAll_mk0) (fun sp hsp =>
      args_again kids slices_full (by rw [Tryz.params3]; decide +kernel) hA1 hlt hb sp hsp) (fun _ _ => rfl) (by simp)
    hb (ok_one (by kernel_rfl) rfl (okWide_bool_mk Tryz.underlying4 _))⟩
theorem tells_reads (os : Os) {H : Type} (enc : TypeId × Value → H) : ∃ ds places, DataW.whole enc Tryz.prog ((laidWorld os).forCall (fun _ _ => 0) ⟨#[], #[w3, w3, .string ⟨#[]⟩, w0, w0, w0], []⟩).memory Tryz.f3.params.toList Rows.versionTellsSpec.vars false #[w3, w3, .string ⟨#[]⟩, w0, w0, w0].toList 8 = some (ds, [], places) :=
  ⟨[.agg [.lit (.int .i64 0), .lit (.int .i64 0), .lit (.int .i64 0)], .agg [.lit (.int .i64 0), .lit (.int .i64 0), .lit (.int .i64 0)], .lit (.string []), .nil, .nil, .nil], [], by kernel_rfl⟩
theorem tells_lifted (os : Os) (started : os.Started) (H : Type) (enc : TypeId × Value → H) (F : Stop.Interp) :
    ReturnsInHanded {} Tryz.checked os 3 .any ((OpenSpec.ofChange Rows.versionTellsSpec).preRow enc Tryz.prog Tryz.f3 Rows.versionTellsRow.domain false Rows.versionTellsRow.laid) (((OpenSpec.ofChange Rows.versionTellsSpec).at F).post enc Tryz.prog Tryz.f3 false true false false) := by
  obtain ⟨ds, places, hx⟩ := tells_reads os enc
  refine returnsInHanded_of_row (C := Tryz.checked) (s := OpenSpec.ofChange Rows.versionTellsSpec) own0 started (by kernel_rfl) Tryz.func3
    (witness_row_atRef (enc := enc) (C := Tryz.checked) false (laidWorld os) #[w3, w3, .string ⟨#[]⟩, w0, w0, w0] rfl (by kernel_rfl) (by kernel_rfl) (by kernel_rfl)
      (OpenSpec.preRow_of_cond 8 hx (by kernel_rfl) (fun k hk => by cases hk) (by kernel_rfl) (laid_met os _))) ?_
  intro W base args ds gs before hval hW _ _ _ hL hS _
  exact tells_contract H enc W base args ds gs before hval hW hL hS
theorem tells_said : Rows.VersionTellsSaid :=
  OpenClaim.holds_of_cond 3 Tryz.f3 rfl rfl rfl rfl rfl rfl rfl ⟨rfl, rfl, rfl, rfl, rfl⟩ rfl rfl rfl rfl rfl (by kernel_rfl) Tryz.func3 (by kernel_rfl)
    (of_decide_eq_true (by kernel_rfl)) (by unfold Func.isWrapper; first | (rw [if_pos (by decide +kernel)]; kernel_rfl) | (rw [if_neg (by decide +kernel)]; exact ⟨rfl, rfl⟩))
    (fun os started H enc _ F => by rw [OpenClaim.pre_eq_preRow]; exact tells_lifted os started H enc F)
theorem tells_plain (f : FuncId) (fn : Func) (hf : Tryz.pinned.checked.prog.funcNamed "lading/ladinglaw12.VersionTells" = some f) (hfn : Tryz.pinned.checked.prog.funcs[f]? = some fn) :
    true = Tryz.pinned.checked.prog.looks [] ∧ ∀ (j : Nat) t, fn.params[j]? = some t → Tryz.pinned.checked.prog.wantsStandIn t = false := by
  obtain rfl : f = 3 := Option.some.inj ((show Tryz.prog.funcNamed "lading/ladinglaw12.VersionTells" = some 3 by kernel_rfl).symm.trans hf) |>.symm
  obtain rfl : fn = Tryz.f3 := (Option.some.inj (Tryz.func3.symm.trans hfn)).symm
  refine ⟨by kernel_rfl, fun j t ht => ?_⟩
  rw [Tryz.params3] at ht
  have ht' : t = 9 ∨ t = 23 ∨ t = 24 ∨ t = 25 := by
    have := Array.mem_of_getElem? ht
    simp only [List.mem_toArray, List.mem_cons, List.not_mem_nil, or_false] at this
    rcases this with rfl | rfl | rfl | rfl | rfl | rfl <;> simp
  rcases ht' with rfl | rfl | rfl | rfl
  · exact (show Tryz.prog.wantsStandIn 9 = false by kernel_rfl)
  · exact (show Tryz.prog.wantsStandIn 23 = false by kernel_rfl)
  · exact (show Tryz.prog.wantsStandIn 24 = false by kernel_rfl)
  · exact (show Tryz.prog.wantsStandIn 25 = false by kernel_rfl)
theorem tells_card : Rows.VersionTellsCardSaid :=
  Claim7.holds_tied_plain_at .later [] _ _ _ _ tells_said (fun _ h => by cases h) (by kernel_rfl) (fun _ h => by cases h) versionTells_row_tie rfl ⟨rfl, rfl⟩ (by kernel_rfl) rfl tells_plain (by kernel_rfl)
end Go.Proofs.YtllapohmppeceaaGreatDoor
