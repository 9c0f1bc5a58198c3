/- The function that compares two functions by their names, and the call of slices.SortFunc over it. No condition. -/
import Derived.Test.YteemeakjlfnapaaGreatDoorGood
import Derived.Test.YteemeakjlfnapaaGreatDoorSh0
import Derived.Test.YteemeakjlfnapaaGreatDoorSh1
import Derived.Test.YteemeakjlfnapaaGreatDoorSh2
import Derived.Test.YteemeakjlfnapaaGreatDoorSh3
import Derived.Test.YteemeakjlfnapaaGreatDoorOps
import Derived.Test.YteemeakjlfnapaaGreatDoorLayS
import Derived.Test.YteemeakjlfnapaaGreatDoorLd
import Derived.Shelf.SlSortCmp.NoneTotal
namespace Go.Proofs.YteemeakjlfnapaaGreatDoor.C
open Go Go.Av Go.Av.Ap
set_option maxRecDepth 100000
noncomputable def pg : Pg := { T := T, funcs := findF tabF, own := own, other := fun _ => none }
theorem hOther : OtherLim pg := fun f E h => by cases h
theorem E169 (call : FuncId → List AV → M AV) (fx : Fix AV) (a0 : AV) : evBody (pg.cx call Tryz.f169.ntmps ann169) fx Tryz.f169 (own 169) [a0] = S169 call fx a0 := by kernel_rfl
theorem C169 (a0 : AV) : callW pg 169 [a0] = isoP (S169 (callW pg) fixW (cl noHs a0)) := (callW_iso hOther rfl rfl rfl _).trans (congrArg isoP (E169 _ _ (cl noHs a0)))
theorem E109 (call : FuncId → List AV → M AV) (fx : Fix AV) (a0 a1 : AV) : evBody (pg.cx call Tryz.f109.ntmps ann109) fx Tryz.f109 (own 109) [a0, a1] = S109 call fx a0 a1 := by kernel_rfl
theorem C109 (a0 a1 : AV) : callW pg 109 [a0, a1] = isoP (S109 (callW pg) fixW (cl noHs a0) (cl noHs a1)) := (callW_iso hOther rfl rfl rfl _).trans (congrArg isoP (E109 _ _ (cl noHs a0) (cl noHs a1)))
theorem E108 (call : FuncId → List AV → M AV) (fx : Fix AV) (a0 a1 : AV) : evBody (pg.cx call Tryz.f108.ntmps ann108) fx Tryz.f108 (own 108) [a0, a1] = S108 call fx a0 a1 := by kernel_rfl
theorem C108 (a0 a1 : AV) : callW pg 108 [a0, a1] = isoP (S108 (callW pg) fixW (cl noHs a0) (cl noHs a1)) := (callW_iso hOther rfl rfl rfl _).trans (congrArg isoP (E108 _ _ (cl noHs a0) (cl noHs a1)))
@[simp] theorem str_gtr (t : Nat) (a b : Str) : binA T .gtr t (.str a) (.str b) = some (.bool !(strLess a b || a == b)) := rfl
theorem t169 (s : Str) : callW pg 169 [.str s] = M.pure (.bool false) := by
  rw [C169]
  have e : binA T .neq 9 (.str s) (.str s) = some (.bool !(s == s)) := rfl
  simp [S169, e]
theorem t109 (a b : Str) : callW pg 109 [.str a, .str b] = M.pure (.int .i64 (cmpS a b)) := by
  rw [C109]
  unfold cmpS
  cases h1 : strLess a b with
  | true => simp [S109, t169, h1]
  | false =>
    by_cases h2 : a = b
    · subst h2
      simp [S109, t169, strLess_irrefl]
    · have h3 := strLess_total a b h1 h2
      have h4 : (a == b) = false := beq_eq_false_iff_ne.2 h2
      simp [S109, t169, h1, h3, h2]
theorem t108 (a b : Str) (x1 x2 x3 x4 y1 y2 y3 y4 : AV) : callW pg 108 [.agg [.str a, x1, x2, x3, x4], .agg [.str b, y1, y2, y3, y4]] = M.pure (.int .i64 (cmpS a b)) := by
  rw [C108]
  have f0 : ∀ cs, fieldAddrA T 56 (.ip cs) 0 = some (.ip (cs.drop 0)) := fun cs => rfl
  have l0 : ∀ (s : Str) (cs : List AV), loadA T 9 (.ip (.str s :: cs)) = some (.str s) := fun s cs => rfl
  simp [S108, cl, cls, acells, f0, l0, t109]
theorem good : @GoodPg ⟨True⟩ Tryz.prog pg := by
  letI : Dr := ⟨True⟩
  exact ⟨tok, funcs_ok, (fun f E h => by cases h), (fun f h => by cases h)⟩
end Go.Proofs.YteemeakjlfnapaaGreatDoor.C
namespace Go.Proofs.YteemeakjlfnapaaGreatDoor
open Go Go.Av Go.Av.Ap Go.RowKit Go.Sort
set_option maxRecDepth 1000000
theorem swoK (keys : List Str) (n : Nat) : SWO (ltOf (cfK keys n)) := by
  have h : ∀ i j, ltOf (cfK keys n) i j = strLess keys[i % n]! keys[j % n]! := fun i j => by
    unfold ltOf cfK cmpS
    cases h1 : strLess keys[i % n]! keys[j % n]! with
    | true => simp
    | false =>
      cases h2 : strLess keys[j % n]! keys[i % n]! <;> simp
  refine ⟨fun x => ?_, fun x y z => ?_, fun x y z => ?_⟩
  · rw [h, strLess_irrefl]
  · rw [h, h, h]
    exact strLess_trans _ _ _
  · rw [h, h, h]
    intro h1 h2
    cases h3 : strLess keys[x % n]! keys[z % n]! with
    | false => rfl
    | true =>
      exfalso
      by_cases e : keys[x % n]! = keys[y % n]!
      · rw [e, h2] at h3
        cases h3
      · have := strLess_trans _ _ _ (strLess_total _ _ h1 e) h3
        rw [this] at h2
        cases h2
theorem gok_sortK {ev : Nat → List Value} {k : Nat} {w : World} (hg : GOKw w) {blk off n : Nat} {d : Array Nat} {os : Array Obj} (hb : gN ≤ blk) : GOKw (sortWorldK ev k w blk off n d os) :=
  hg.mono fun b hlt => sort_other ev k off n d os (Nat.lt_of_lt_of_le hlt hg.lt) (by omega)
theorem enters108 : ∀ args w, (callFunc 108 args).run Tryz.prog w = .ok (.enter 108 args) w := enters_of Tryz.func108 (by kernel_rfl) rfl
theorem cmp108 (a b : Str) (u v : List Value) (hu : ∃ (x : ByteArray) (r : List Value), u = .string x :: r ∧ x.data.toList = a) (hv : ∃ (x : ByteArray) (r : List Value), v = .string x :: r ∧ x.data.toList = b) (lu : u.length = 5) (lv : v.length = 5) (W : World) (hg : GOKw W) :
    Calls Tryz.prog 108 #[.agg u.toArray, .agg v.toArray] W fun e w' => e = .returned (.int .i64 (cmpS a b)) ∧ ∃ q os', w' = grow (W.drewN q) os' := by
  letI : Dr := ⟨True⟩
  have hs : ∀ (s : Str) (u : List Value), (∃ (x : ByteArray) (r : List Value), u = .string x :: r ∧ x.data.toList = s) → u.length = 5 → VR (allS W) [] (.agg [.str s, .any, .any, .any, .any]) (.agg u.toArray) := by
    rintro s u ⟨x, r, rfl, hx⟩ hl
    obtain ⟨r1, r2, r3, r4, rfl⟩ : ∃ r1 r2 r3 r4, r = [r1, r2, r3, r4] := by
      match r, hl with
      | [r1, r2, r3, r4], _ => exact ⟨r1, r2, r3, r4, rfl⟩
    simp only [VR]
    refine ⟨_, rfl, ?_⟩
    simp only [VRs, VR]
    exact ⟨_, _, rfl, ⟨x, rfl, hx⟩, _, _, rfl, trivial, _, _, rfl, trivial, _, _, rfl, trivial, _, _, rfl, trivial, rfl⟩
  have hv2 : VRs (allS W) [] [.agg [.str a, .any, .any, .any, .any], .agg [.str b, .any, .any, .any, .any]] [.agg u.toArray, .agg v.toArray] := by
    simp only [VRs]
    exact ⟨_, _, rfl, hs a u hu lu, _, _, rfl, hs b v hv lv, rfl⟩
  have h := (callW_sound C.good C.hOther 108 [.agg [.str a, .any, .any, .any, .any], .agg [.str b, .any, .any, .any, .any]] [] (allS W) [] W _ (by rw [C.t108]; simp [M.pure]) ⟨hg, fun b _ ho => by obtain ⟨l, _, _, h1, _⟩ := ho; simp at h1⟩ (fun _ _ _ h => h) ⟨rfl, fun _ => .no, fun l cs hl => by simp at hl⟩ hv2).1
  rw [C.t108] at h
  refine h.mono fun e w' hp => ?_
  obtain ⟨S', β', v, rfl, hv, L, _⟩ := hp
  simp only [VR] at hv
  subst hv
  exact ⟨rfl, L.grew trivial⟩
theorem agg56 : ∀ w, (isAgg 56).run Tryz.prog w = .ok true w := fun w => by kernel_rfl
theorem size56 : ∀ w, (Go.sizeOf 56).run Tryz.prog w = .ok 5 w := fun w => by kernel_rfl
theorem sortK_calls (w : World) (blk off cap : Nat) (keys : List Str) (ev : Nat → List Value) (_h0 : 0 < keys.length) (hl : ∀ i, (ev i).length = 5) (h1 : ∀ i, ∀ v ∈ ev i, v.oneCell' = true)
    (hk : ∀ i, ∃ (x : ByteArray) (r : List Value), ev i = .string x :: r ∧ x.data.toList = keys[i % keys.length]!) (hg : GOKw w) (hb : gN ≤ blk) (hH : HoldsK ev 5 w blk off (Array.range keys.length)) (hlt : blk < w.heap.size) (hsz : keys.length < 4611686018427387904) :
    Calls Tryz.prog 107 #[.slice (some ⟨blk, off, none⟩) keys.length cap, .func (.func 108) #[] #[]] w fun e w' => e = .returned (.tuple #[]) ∧ ∃ n os, w' = sortWorldK ev 5 w blk off n (permK keys).toArray os := by
  have := AnyQ.slices_SortFunc_eq Tryz.laysSort 5 agg56 size56 ev hl h1 (cfK keys keys.length) (swoK keys keys.length) 108 #[] blk off cap (Array.range keys.length) w enters108
    (fun m os dk _ x y => cmp108 _ _ _ _ (hk x) (hk y) (hl x) (hl y) _ (gok_sortK hg hb)) hH hlt (by simpa using hsz)
  rw [Array.size_range] at this
  refine this.mono ?_
  rintro e w' ⟨he, n, os, hw⟩
  refine ⟨he, n, os, ?_⟩
  rw [hw]
  unfold permK
  simp
theorem oth107 (call : FuncId → List AV → M AV) (args : List AV) (h : Hp) (S : Stab) (β : List Blk) (w : World) (vs : List Value) (hr : gsortE 5 108 call args h ≠ .fail) (hg : GOK β h w) (hw : Wf S w) (hh : HeapX S β w h) (hv : VRs S β args vs) :
    Calls Tryz.prog 107 vs.toArray w (CPost none S β h w (gsortE 5 108 call args h)) := by
  have h0 := hr
  unfold gsortE at hr
  split at hr
  · rename_i g'
    cases hb : Nat.beq g' 108 with
    | false => rw [hb] at hr; exact absurd rfl hr
    | true =>
      have e : gsortE 5 108 call [.sl [], .fn (.func g') [] []] h = .ok (.tup []) h := by simp only [gsortE, hb, cond_true]
      rw [e]
      simp only [VRs, VR, List.length_nil] at hv
      obtain ⟨_, _, rfl, ⟨a, cap, rfl, _⟩, v, _, rfl, _, rfl⟩ := hv
      refine (AnyF.slices_SortFunc_none Tryz.laysSort a cap v w).mono ?_
      rintro e' w' ⟨rfl, rfl⟩
      exact cpost_below hw hh (Below.refl _ _) noDr (by simp only [VR, VRs]; exact ⟨[], rfl, rfl⟩)
  · rename_i g'
    cases hb : Nat.beq g' 108 with
    | false => rw [hb] at hr; exact absurd rfl hr
    | true =>
      have e : gsortE 5 108 call [.hn, .fn (.func g') [] []] h = .ok (.tup []) h := by simp only [gsortE, hb, cond_true]
      rw [e]
      simp only [VRs, VR] at hv
      obtain ⟨_, _, rfl, rfl, v, _, rfl, _, rfl⟩ := hv
      refine (AnyF.slices_SortFunc_none Tryz.laysSort none 0 v w).mono ?_
      rintro e' w' ⟨rfl, rfl⟩
      exact cpost_below hw hh (Below.refl _ _) noDr (by simp only [VR, VRs]; exact ⟨[], rfl, rfl⟩)
  · exact gsort_hs call sortK_calls h0 hg hw hh hv
  · exact absurd rfl hr
end Go.Proofs.YteemeakjlfnapaaGreatDoor
