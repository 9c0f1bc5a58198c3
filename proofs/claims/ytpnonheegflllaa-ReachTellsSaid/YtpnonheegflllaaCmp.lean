/- The function that compares two references, and the call of slices.SortFunc over it. No condition. -/
import Derived.Test.YtpnonheegflllaaGood
import Derived.Test.YtpnonheegflllaaSh0
import Derived.Test.YtpnonheegflllaaOps
import Derived.Test.YtpnonheegflllaaLayS
import Derived.Test.YtpnonheegflllaaLd
import Derived.Shelf.SlSortCmp.NoneTotal
namespace Go.Proofs.Ytpnonheegflllaa.C
open Go Go.Av Go.Av.Ap
set_option maxRecDepth 100000
noncomputable def pg : Pg := { T := T, funcs := findF tabF, own := own, other := fun _ => none }
theorem hOther : OtherLim pg := fun f E h => by cases h
theorem E54 (call : FuncId → List AV → M AV) (fx : Fix AV) (a0 : AV) : evBody (pg.cx call Try.f54.ntmps ann54) fx Try.f54 (own 54) [a0] = S54 call fx a0 := by kernel_rfl
theorem C54 (a0 : AV) : callW pg 54 [a0] = isoP (S54 (callW pg) fixW (cl noHs a0)) := (callW_iso hOther rfl rfl rfl _).trans (congrArg isoP (E54 _ _ (cl noHs a0)))
theorem E47 (call : FuncId → List AV → M AV) (fx : Fix AV) (a0 a1 : AV) : evBody (pg.cx call Try.f47.ntmps ann47) fx Try.f47 (own 47) [a0, a1] = S47 call fx a0 a1 := by kernel_rfl
theorem C47 (a0 a1 : AV) : callW pg 47 [a0, a1] = isoP (S47 (callW pg) fixW (cl noHs a0) (cl noHs a1)) := (callW_iso hOther rfl rfl rfl _).trans (congrArg isoP (E47 _ _ (cl noHs a0) (cl noHs a1)))
theorem E46 (call : FuncId → List AV → M AV) (fx : Fix AV) (a0 : AV) : evBody (pg.cx call Try.f46.ntmps ann46) fx Try.f46 (own 46) [a0] = S46 call fx a0 := by kernel_rfl
theorem C46 (a0 : AV) : callW pg 46 [a0] = isoP (S46 (callW pg) fixW (cl noHs a0)) := (callW_iso hOther rfl rfl rfl _).trans (congrArg isoP (E46 _ _ (cl noHs a0)))
theorem E32 (call : FuncId → List AV → M AV) (fx : Fix AV) (a0 a1 : AV) : evBody (pg.cx call Try.f32.ntmps ann32) fx Try.f32 (own 32) [a0, a1] = S32 call fx a0 a1 := by kernel_rfl
theorem C32 (a0 a1 : AV) : callW pg 32 [a0, a1] = isoP (S32 (callW pg) fixW (cl noHs a0) (cl noHs a1)) := (callW_iso hOther rfl rfl rfl _).trans (congrArg isoP (E32 _ _ (cl noHs a0) (cl noHs a1)))
theorem str_gtr (t : Nat) (a b : Str) : binA T .gtr t (.str a) (.str b) = some (.bool !(strLess a b || a == b)) := rfl
def cmpS (x y : Str) : Int := if strLess x y = true then -1 else if strLess y x = true then 1 else 0
theorem t54 (s : Str) : callW pg 54 [.str s] = M.pure (.bool false) := by
  rw [C54]
  have e : binA T .neq 9 (.str s) (.str s) = some (.bool !(s == s)) := rfl
  simp [S54, e]
theorem t47 (a b : Str) : callW pg 47 [.str a, .str b] = M.pure (.int .i64 (cmpS a b)) := by
  rw [C47]
  unfold cmpS
  cases h1 : strLess a b with
  | true => simp [S47, t54, h1]
  | false =>
    by_cases h2 : a = b
    · subst h2
      simp [S47, t54, strLess_irr, str_gtr]
    · have h3 := strLess_tot a b h1 h2
      have h4 : (a == b) = false := beq_eq_false_iff_ne.2 h2
      simp [S47, t54, h1, h3, h2, str_gtr]
theorem loop46 (l : List Int) (hb : l.length ≤ 1099511627776) : ∀ (n : Nat) (i : Int), l.length - i.toNat = n → 0 ≤ i → i ≤ l.length →
    fixW (L46_0 (callW pg) fixW) [.int .i64 0, ints l, .int .i64 l.length, .int .i64 i] = M.pure (.int .i64 (((l.drop i.toNat).find? fun x => !(x == 0)).getD 0)) := by
  intro n
  induction n with
  | zero =>
    intro i hn hi hl
    rw [FL46_0]
    simp only [L46_0]
    have h1 : ¬ (i < (l.length : Int)) := by omega
    have h2 : l.drop i.toNat = [] := List.drop_eq_nil_of_le (by omega)
    simp [h1, h2]
  | succ n ih =>
    intro i hn hi hl
    have h1 : i < (l.length : Int) := by omega
    have hlt : i.toNat < l.length := by omega
    have h4 := ih (i + 1) (by omega) (by omega) (by omega)
    rw [show (i + 1).toNat = i.toNat + 1 by omega] at h4
    rw [FL46_0, List.drop_eq_getElem_cons hlt]
    simp only [L46_0, List.find?_cons]
    by_cases h0 : l[i.toNat] = 0
    · simp (disch := omega) [h1, wrap_in, IX96, h4, h0, getElem!_pos l i.toNat hlt]
    · have h0' : (l[i.toNat] == 0) = false := beq_eq_false_iff_ne.2 h0
      simp (disch := omega) [h1, wrap_in, IX96, h0, h0', getElem!_pos l i.toNat hlt]
theorem t46 (l : List Int) (hb : l.length ≤ 1099511627776) : callW pg 46 [ints l] = M.pure (.int .i64 ((l.find? fun x => !(x == 0)).getD 0)) := by
  rw [C46]
  simp [S46, loop46 l hb l.length 0 rfl (by omega) (by omega)]
theorem t32 (a b : Ref) : callW pg 32 [refA a, refA b] = M.pure (.int .i64 (cmpR a b)) := by
  rw [C32]
  have hB : ∀ x y : Int, buildSliceA T 96 2 [(0, .int .i64 x), (1, .int .i64 y)] = some (ints [x, y]) := fun x y => rfl
  have hc : (([cmpS a.1 b.1, cmpS a.2 b.2].find? fun x => !(x == 0)).getD 0) = cmpR a b := by
    unfold cmpR cmpS ltR
    have e1 := strLess_irr a.1
    have e2 := strLess_irr a.2
    cases h1 : strLess a.1 b.1 with
    | true => simp
    | false =>
      cases h2 : strLess b.1 a.1 with
      | true =>
        have : a.1 ≠ b.1 := fun e => by rw [e, strLess_irr] at h2; cases h2
        have h3 : (a.1 == b.1) = false := beq_eq_false_iff_ne.2 this
        simp [h3]
      | false =>
        have : a.1 = b.1 := by
          by_cases e : a.1 = b.1
          · exact e
          · have := strLess_tot _ _ h1 e; rw [this] at h2; cases h2
        have h3 : (a.1 == b.1) = true := beq_iff_eq.2 this
        have h4 : (b.1 == a.1) = true := beq_iff_eq.2 this.symm
        cases h5 : strLess a.2 b.2 with
        | true => simp [h3]
        | false =>
          cases h6 : strLess b.2 a.2 <;> simp [h3, h4]
  simp [S32, t47, hB, t46, noPan_pure, hc]
theorem good : @GoodPg ⟨True⟩ Try.prog pg := by
  letI : Dr := ⟨True⟩
  exact ⟨tok, funcs_ok, (fun f E h => by cases h), (fun f h => by cases h)⟩
end Go.Proofs.Ytpnonheegflllaa.C
namespace Go.Proofs.Ytpnonheegflllaa
open Go Go.Av Go.Av.Ap Go.RowKit Go.Sort
set_option maxRecDepth 1000000
theorem gok_sort {w : World} (hg : GOKw w) {blk off n : Nat} {d : Array Ref} {os : Array Obj} (hb : gN ≤ blk) : GOKw (sortWorldK evRef 2 w blk off n d os) :=
  hg.mono fun b hlt => sort_other evRef 2 off n d os (Nat.lt_of_lt_of_le hlt hg.lt) (by omega)
theorem enters32 : ∀ args w, (callFunc 32 args).run Try.prog w = .ok (.enter 32 args) w := enters_of Try.func32 (by kernel_rfl) rfl
theorem vr_ref (S : Stab) (β : List Blk) (x : Ref) : VR S β (refA x) (.agg (evRef x).toArray) := by
  simp only [refA, VR]
  exact ⟨evRef x, rfl, elsRef_ok.vr S β x⟩
theorem cmp32 (x y : Ref) (W : World) (hg : GOKw W) : Calls Try.prog 32 #[.agg (evRef x).toArray, .agg (evRef y).toArray] W fun e w' => e = .returned (.int .i64 (cmpR x y)) ∧ ∃ q os', w' = grow (W.drewN q) os' := by
  letI : Dr := ⟨True⟩
  have hv : VRs (allS W) [] [refA x, refA y] [.agg (evRef x).toArray, .agg (evRef y).toArray] := by
    simp only [VRs]
    exact ⟨_, _, rfl, vr_ref _ _ x, _, _, rfl, vr_ref _ _ y, rfl⟩
  have h := (callW_sound C.good C.hOther 32 [refA x, refA y] [] (allS W) [] W _ (by rw [C.t32]; simp [M.pure]) ⟨hg, fun b _ ho => by obtain ⟨l, _, _, h1, _⟩ := ho; simp at h1⟩ (fun _ _ _ h => h) ⟨rfl, fun _ => .no, fun l cs hl => by simp at hl⟩ hv).1
  rw [C.t32] at h
  refine h.mono fun e w' hp => ?_
  obtain ⟨S', β', v, rfl, hv, L, _⟩ := hp
  simp only [VR] at hv
  subst hv
  exact ⟨rfl, L.grew trivial⟩
theorem agg24 : ∀ w, (isAgg 24).run Try.prog w = .ok true w := fun w => by kernel_rfl
theorem size24 : ∀ w, (Go.sizeOf 24).run Try.prog w = .ok 2 w := fun w => by kernel_rfl
theorem sort_calls (w : World) (blk off cap : Nat) (d : Array Ref) (hg : GOKw w) (hb : gN ≤ blk) (hH : HoldsK elsRef.ev elsRef.k w blk off d) (hlt : blk < w.heap.size) (hsz : d.size < 4611686018427387904) :
    Calls Try.prog 37 #[.slice (some ⟨blk, off, none⟩) d.size cap, .func (.func 32) #[] #[]] w fun e w' => e = .returned (.tuple #[]) ∧ ∃ n os, w' = sortWorldK elsRef.ev elsRef.k w blk off n (srtRef d.toList).toArray os := by
  have := AnyQ.slices_SortFunc_eq Try.laysSort 2 agg24 size24 evRef (fun _ => rfl) elsRef_ok.one cmpR swoR 32 #[] blk off cap d w enters32
    (fun m os dk _ x y => cmp32 x y _ (gok_sort hg hb)) hH hlt hsz
  refine this.mono ?_
  rintro e w' ⟨he, n, os, hw⟩
  refine ⟨he, n, os, ?_⟩
  rw [hw]
  unfold srtRef
  simp only [elsRef]
theorem oth37 (call : FuncId → List AV → M AV) (args : List AV) (h : Hp) (S : Stab) (β : List Blk) (w : World) (vs : List Value) (hr : sortRefE 32 call args h ≠ .fail) (hg : GOK β h w) (hw : Wf S w) (hh : HeapX S β w h) (hv : VRs S β args vs) :
    Calls Try.prog 37 vs.toArray w (CPost none S β h w (sortRefE 32 call args h)) := by
  by_cases hf : ∃ o', args = [.hn, .fn (.func o') [] []]
  · obtain ⟨o', rfl⟩ := hf
    have e : sortRefE 32 call [.hn, .fn (.func o') [] []] h = (bif Nat.beq o' 32 then R.ok (.tup []) h else R.fail) := rfl
    rw [e] at hr ⊢
    cases hb : Nat.beq o' 32 with
    | false => rw [hb] at hr; exact absurd rfl hr
    | true =>
      simp only [VRs, VR] at hv
      obtain ⟨_, _, rfl, rfl, v, _, rfl, _, rfl⟩ := hv
      refine (AnyF.slices_SortFunc_none Try.laysSort none 0 v w).mono ?_
      rintro e' w' ⟨rfl, rfl⟩
      exact cpost_below hw hh (Below.refl _ _) noDr (by simp only [VR, VRs]; exact ⟨[], rfl, rfl⟩)
  · have e : sortRefE 32 call args h = sortE elsRef 32 srtRef call args h := by
      unfold sortRefE
      split
      · rename_i o'; exact absurd ⟨o', rfl⟩ hf
      · rfl
    rw [e] at hr ⊢
    have h0 := hr
    unfold sortE at h0
    split at h0
    · rename_i g'
      cases hb : Nat.beq g' 32 with
      | false => rw [hb] at h0; exact absurd rfl h0
      | true =>
        have e : sortE elsRef 32 srtRef call [.sl [], .fn (.func g') [] []] h = .ok (.tup []) h := by simp only [sortE, hb, cond_true]
        rw [e]
        simp only [VRs, VR, List.length_nil] at hv
        obtain ⟨_, _, rfl, ⟨a, cap, rfl, _⟩, v, _, rfl, _, rfl⟩ := hv
        refine (AnyF.slices_SortFunc_none Try.laysSort a cap v w).mono ?_
        rintro e' w' ⟨rfl, rfl⟩
        exact cpost_below hw hh (Below.refl _ _) noDr (by simp only [VR, VRs]; exact ⟨[], rfl, rfl⟩)
    · exact sort_hs elsRef_ok call (fun w blk off cap d hg hb hH hlt hsz => sort_calls w blk off cap d hg hb hH hlt hsz) hr hg hw hh hv
    · exact absurd rfl h0
end Go.Proofs.Ytpnonheegflllaa
