/- Functions of Go's library that are known by contracts: strconv.Itoa, strings.Contains. No condition. -/
import Derived.Test.YteemeakjlfnapaaGreatDoorLay
import Derived.Test.YteemeakjlfnapaaGreatDoorGood
namespace Go.Proofs.YteemeakjlfnapaaGreatDoor
open Go Go.Av Go.RowKit
set_option maxRecDepth 100000
theorem below_grow (w : World) (k : Nat) (os : Array Obj) : Below w.heap.size w (Go.Sort.grow (w.drewN k) os) := by
  refine (show Below w.heap.size w (w.drewN k) from ⟨rfl, rfl, rfl, Nat.le_refl _, fun _ _ => rfl⟩).trans ⟨rfl, rfl, rfl, ?_, fun b hb => ?_⟩
  · simp [Go.Sort.grow]
  · have hb' : b < (w.drewN k).heap.size := hb
    show ((w.drewN k).heap ++ os)[b]? = _
    rw [Array.getElem?_append_left hb']
theorem tab_pow {w : World} (h : GOKw w) : Lib.TabIs Tryz.prog w "internal/strconv.uint64pow10" .u64 Lib.pow10Tab := by
  obtain ⟨t, fr, hp⟩ := h.pow
  have hn : Tryz.prog.globalNamed "internal/strconv.uint64pow10" = some 3 := by kernel_rfl
  unfold Lib.TabIs World.var?
  rw [hn]
  simp only [Option.bind_some, hp]
theorem oth153 (call : FuncId → List AV → M AV) (args : List AV) (h : Hp) (S : Stab) (β : List Blk) (w : World) (vs : List Value) (hr : itoaE call args h ≠ .fail) (hg : GOK β h w) (hw : Wf S w) (hh : HeapX S β w h) (hv : VRs S β args vs) :
    Calls Tryz.prog 153 vs.toArray w (CPost none S β h w (itoaE call args h)) := by
  unfold itoaE at hr ⊢
  split at hr
  · rename_i n
    simp only [VRs, VR] at hv
    obtain ⟨v, r, rfl, rfl, rfl⟩ := hv
    cases hc : (decide (-9223372036854775808 ≤ n) && decide (n ≤ 9223372036854775807)) with
    | false => rw [hc] at hr; exact absurd rfl hr
    | true =>
      simp only [Bool.and_eq_true, decide_eq_true_eq] at hc
      simp only [cond_true]
      refine (Any.strconv_Itoa Tryz.laysM171 n hc.1 hc.2 w (tab_pow hg.1)).mono ?_
      rintro e w' ⟨rfl, k, os, rfl⟩
      exact cpost_below hw hh (below_grow w k os) noDr (by simp only [VR]; exact ⟨_, rfl, by rw [itoaL_eq hc.1 hc.2]⟩)
  · exact absurd rfl hr
theorem str_val {S : Stab} {β : List Blk} {s : List UInt8} {r : List Value} {l : List AV} (hv : VRs S β (.str s :: l) r) : ∃ x r', r = .string x :: r' ∧ x.data.toList = s ∧ VRs S β l r' := by
  simp only [VRs, VR] at hv
  obtain ⟨v, r', rfl, ⟨x, rfl, hx⟩, h⟩ := hv
  exact ⟨x, r', rfl, hx, h⟩
theorem oth147 (call : FuncId → List AV → M AV) (args : List AV) (h : Hp) (S : Stab) (β : List Blk) (w : World) (vs : List Value) (hr : containsE call args h ≠ .fail) (hg : GOK β h w) (hw : Wf S w) (hh : HeapX S β w h) (hv : VRs S β args vs) :
    Calls Tryz.prog 147 vs.toArray w (CPost none S β h w (containsE call args h)) := by
  unfold containsE at hr ⊢
  split at hr
  · rename_i s t
    obtain ⟨x, r, rfl, hx, hv⟩ := str_val hv
    obtain ⟨y, r, rfl, hy, hv⟩ := str_val hv
    simp only [VRs] at hv
    subst hv
    cases hc : decide (s.length < 4294967281) with
    | false => rw [hc] at hr; exact absurd rfl hr
    | true =>
      simp only [cond_true]
      have hlen : x.size = s.length := by rw [← hx, Array.length_toList]; rfl
      obtain ⟨m, hm⟩ := hg.1.max
      refine (Any.strings_Contains Tryz.lays144 x y m w (by have := of_decide_eq_true hc; omega) hm).mono ?_
      rintro e w' ⟨rfl, rfl⟩
      exact cpost_below hw hh (Below.refl _ _) noDr (by simp only [VR]; rw [hx, hy])
  · exact absurd rfl hr
end Go.Proofs.YteemeakjlfnapaaGreatDoor
