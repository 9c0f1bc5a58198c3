/- For all three versions the law VersionOrder returns true and leaves its arguments as they are. Conditions: the package variables that the row lists hold what it lists, as the card ties it. -/
import Derived.Test.YtllapohmppeceaaDoorCards
import Derived.Test.YtllapohmppeceaaDoorTie
import Derived.Test.YtllapohmppeceaaDoorGok
import Derived.Test.YtllapohmppeceaaDoorOrder
import Derived.Lib.SmallJoins
namespace Go.Proofs.YtllapohmppeceaaDoor
open Go Go.Av Go.Av.Ap Go.ChangeShapes Go.WideShapes Go.ChangeAt Go.RowKit Go.Joins Go.Deep
set_option maxRecDepth 1000000

section
variable {H : Type} {enc : TypeId × Value → H}
theorem one23 : oneCellFields Tryd.prog #[{ name := "Major", type := 3, offset := 0, embedded := false, tag := "", pkgPath := "", byteOffset := 0 }, { name := "Minor", type := 3, offset := 1, embedded := false, tag := "", pkgPath := "", byteOffset := 8 }, { name := "Patch", type := 3, offset := 2, embedded := false, tag := "", pkgPath := "", byteOffset := 16 }] = true := by kernel_rfl
theorem cells23 : Tryd.prog.cellsOf 23 = 3 := by kernel_rfl
/-- A version, opened. -/
theorem open_ver {W : World} {base b0 : Nat} {sp : Nat → Bool} {r : Reach} {held : Bool} {v : Value} {d : DataW H} {p : List MemPlace} (hv : Value.okWide Tryd.prog W r b0 23 v) (h : DataW.Trod enc Tryd.prog W base sp held 23 v d p) :
    ∃ x : Ver, v = .agg #[.int .i64 x.a, .int .i64 x.b, .int .i64 x.c] ∧ p = [] ∧ ∀ (W' : World) (base' : Nat) (sp' : Nat → Bool) (held' : Bool), DataW.Trod enc Tryd.prog W' base' sp' held' 23 v d [] := by
  obtain ⟨v0, v1, v2, y0, y1, y2, n, rfl, rfl, rfl, h0, h1, h2⟩ := open_agg3 Tryd.underlying23 one23 cells23 hv h
  obtain ⟨n0, e0, hy0, w0⟩ := DataW.trod_int Tryd.underlying3 h0
  obtain ⟨n1, e1, hy1, w1⟩ := DataW.trod_int Tryd.underlying3 h1
  obtain ⟨n2, e2, hy2, w2⟩ := DataW.trod_int Tryd.underlying3 h2
  simp only [List.cons.injEq, and_true] at e0 e1 e2
  subst e0 e1 e2 hy0 hy1 hy2
  refine ⟨⟨n0, n1, n2⟩, rfl, rfl, fun W' base' sp' held' => ?_⟩
  have := shut_agg3 (enc := enc) (w := W') (base := base') (spare := sp') (held := held') (v0 := .int .i64 n0) (v1 := .int .i64 n1) (v2 := .int .i64 n2) (y0 := (.lit (.int .i64 n0), [])) (y1 := (.lit (.int .i64 n1), [])) (y2 := (.lit (.int .i64 n2), [])) Tryd.underlying23 one23 cells23
    ⟨1, by simp [DataW.trod, Tryd.underlying3, w0]⟩ ⟨1, by simp [DataW.trod, Tryd.underlying3, w1]⟩ ⟨1, by simp [DataW.trod, Tryd.underlying3, w2]⟩
  exact this
end

theorem order_contract (H : Type) (enc : TypeId × Value → H) (W : World) (base : Nat) (args : Array Value) (ds gs : List (DataW H)) (before : List MemPlace)
    (hval : ∀ (j : Nat) t v, Tryd.f4.params[j]? = some t → args[j]? = some v → Value.okWide Tryd.prog W .any base t v)
    (hW : DataW.Whole enc Tryd.prog Tryd.f4.params.toList Rows.versionOrderSpec.vars false W args.toList ds gs before) (hL : laidMetH Tryd.prog Rows.versionOrderRow.laid W) (hS : W.ShapedOpen Tryd.prog) :
    Calls Tryd.prog 4 args W fun e W' => ∃ v, e = .returned v ∧ Rows.versionOrderSpec.post enc Tryd.prog Tryd.f4 false true false false W args v W' := by
  have hW' := hW
  obtain ⟨p, q, hA0, hV, rfl, hfz, hnd⟩ := hW
  have hA : DataW.TrodAll enc Tryd.prog W 0 (fun _ => true) true Tryd.f4.params.toList args.toList ds p := hA0
  rw [Tryd.params4] at hA hval
  obtain ⟨v0, v1, v2, d0, d1, d2, p0, p1, p2, rfl, rfl, rfl, h0, h1, h2⟩ := trodAll_three hA
  obtain ⟨rfl, rfl⟩ := trodVars_none hV
  obtain ⟨x0, rfl, rfl, s0⟩ := open_ver (hval 0 23 v0 rfl rfl) h0
  obtain ⟨x1, rfl, rfl, s1⟩ := open_ver (hval 1 23 v1 rfl rfl) h1
  obtain ⟨x2, rfl, rfl, s2⟩ := open_ver (hval 2 23 v2 rfl rfl) h2
  clear hA0
  simp only [List.append_nil] at hW'
  have hv : VRs (allS W) [] [x0.av, x1.av, x2.av] [.agg #[.int .i64 x0.a, .int .i64 x0.b, .int .i64 x0.c], .agg #[.int .i64 x1.a, .int .i64 x1.b, .int .i64 x1.c], .agg #[.int .i64 x2.a, .int .i64 x2.b, .int .i64 x2.c]] := by
    have one : ∀ x : Ver, VR (allS W) [] x.av (.agg #[.int .i64 x.a, .int .i64 x.b, .int .i64 x.c]) := fun x => by
      simp only [Ver.av, VR, VRs]
      exact ⟨[.int .i64 x.a, .int .i64 x.b, .int .i64 x.c], rfl, _, _, rfl, rfl, _, _, rfl, rfl, _, _, rfl, rfl, rfl⟩
    simp only [VRs]
    exact ⟨_, _, rfl, one x0, _, _, rfl, one x1, _, _, rfl, one x2, rfl⟩
  refine (law_calls good hOther (gok_of hL hS) hv (by rw [t4]; rfl)).mono fun e W' ⟨he, hb⟩ => ?_
  subst he
  exact ⟨_, rfl, post_of_below (pa := []) (pv := []) hW' (fun _ _ _ => trodAll_cons_mk (shut_bool Tryd.underlying4 _) trodAll_mk0) (fun sp _ => by
      have := trodAll_cons_mk (s0 W' 0 sp true) (trodAll_cons_mk (s1 W' 0 sp true) (trodAll_cons_mk (s2 W' 0 sp true) trodAll_mk0))
      exact this) (fun _ _ => rfl) rfl
    hb (ok_one (by kernel_rfl) rfl (okWide_bool_mk Tryd.underlying4 _))⟩

abbrev v0 : Value := .agg #[.int .i64 0, .int .i64 0, .int .i64 0]
theorem order_reads (os : Os) {H : Type} (enc : TypeId × Value → H) : ∃ ds places, DataW.whole enc Tryd.prog ((laidWorld os).forCall (fun _ _ => 0) ⟨#[], #[v0, v0, v0], []⟩).memory Tryd.f4.params.toList Rows.versionOrderSpec.vars false #[v0, v0, v0].toList 8 = some (ds, [], places) :=
  ⟨[.agg [.lit (.int .i64 0), .lit (.int .i64 0), .lit (.int .i64 0)], .agg [.lit (.int .i64 0), .lit (.int .i64 0), .lit (.int .i64 0)], .agg [.lit (.int .i64 0), .lit (.int .i64 0), .lit (.int .i64 0)]], [], by kernel_rfl⟩

theorem order_lifted (os : Os) (started : os.Started) (H : Type) (enc : TypeId × Value → H) (F : Stop.Interp) :
    ReturnsInHanded {} Tryd.checked os 4 .any ((OpenSpec.ofChange Rows.versionOrderSpec).preRow enc Tryd.prog Tryd.f4 Rows.versionOrderRow.domain false Rows.versionOrderRow.laid) (((OpenSpec.ofChange Rows.versionOrderSpec).at F).post enc Tryd.prog Tryd.f4 false true false false) := by
  obtain ⟨ds, places, hx⟩ := order_reads os enc
  refine returnsInHanded_of_row (C := Tryd.checked) (s := OpenSpec.ofChange Rows.versionOrderSpec) own0 started (by kernel_rfl) Tryd.func4
    (witness_row_atRef (enc := enc) (C := Tryd.checked) false (laidWorld os) #[v0, v0, v0] rfl (by kernel_rfl) (by kernel_rfl) (by kernel_rfl)
      (OpenSpec.preRow_of_cond 8 hx (by kernel_rfl) (fun k hk => by cases hk) (by kernel_rfl) (laid_met os _))) ?_
  intro W base args ds gs before hval hW _ _ _ hL hS _
  exact order_contract H enc W base args ds gs before hval hW hL hS

theorem order_said : Rows.VersionOrderSaid :=
  OpenClaim.holds_of_cond 4 Tryd.f4 rfl rfl rfl rfl rfl rfl rfl ⟨rfl, rfl, rfl, rfl, rfl⟩ rfl rfl rfl rfl rfl (by kernel_rfl) Tryd.func4 (by kernel_rfl)
    (of_decide_eq_true (by kernel_rfl)) (by unfold Func.isWrapper; first | (rw [if_pos (by decide +kernel)]; kernel_rfl) | (rw [if_neg (by decide +kernel)]; exact ⟨rfl, rfl⟩))
    (fun os started H enc _ F => by rw [OpenClaim.pre_eq_preRow]; exact order_lifted os started H enc F)

theorem order_plain (f : FuncId) (fn : Func) (hf : Tryd.pinned.checked.prog.funcNamed "lading/ladinglaw12.VersionOrder" = some f) (hfn : Tryd.pinned.checked.prog.funcs[f]? = some fn) :
    true = Tryd.pinned.checked.prog.looks [] ∧ ∀ (j : Nat) t, fn.params[j]? = some t → Tryd.pinned.checked.prog.wantsStandIn t = false := by
  obtain rfl : f = 4 := Option.some.inj ((show Tryd.prog.funcNamed "lading/ladinglaw12.VersionOrder" = some 4 by kernel_rfl).symm.trans hf) |>.symm
  obtain rfl : fn = Tryd.f4 := (Option.some.inj (Tryd.func4.symm.trans hfn)).symm
  refine ⟨by kernel_rfl, fun j t ht => ?_⟩
  rw [Tryd.params4] at ht
  obtain rfl : t = 23 := by
    have := Array.mem_of_getElem? ht
    simpa using this
  exact (show Tryd.prog.wantsStandIn 23 = false by kernel_rfl)

theorem order_card : Rows.VersionOrderCardSaid :=
  Claim7.holds_tied_plain_at .later [] _ _ _ _ order_said (fun _ h => by cases h) (by kernel_rfl) (fun _ h => by cases h) versionOrder_row_tie rfl ⟨rfl, rfl⟩ (by kernel_rfl) rfl order_plain (by kernel_rfl)
end Go.Proofs.YtllapohmppeceaaDoor
