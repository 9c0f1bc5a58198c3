/- A function of Go's library that is known by a contract: strings.Fields. No condition. -/
import Derived.Test.YteemeakjlfnapaaGreatDoorOthC
namespace Go.Proofs.YteemeakjlfnapaaGreatDoor
open Go Go.Av Go.RowKit
set_option maxRecDepth 100000
theorem tab_asc {w : World} (h : GOKw w) : Lib.TabIs Tryz.prog w "strings.asciiSpace" .u8 Lib.asciiSpaceTab := by
  obtain ⟨t, fr, hp⟩ := h.asc
  have hn : Tryz.prog.globalNamed "strings.asciiSpace" = some 0 := by kernel_rfl
  unfold Lib.TabIs World.var?
  rw [hn]
  simp only [Option.bind_some, hp]
theorem oth193 (call : FuncId → List AV → M AV) (args : List AV) (h : Hp) (S : Stab) (β : List Blk) (w : World) (vs : List Value) (hr : fieldsE call args h ≠ .fail) (hg : GOK β h w) (hw : Wf S w) (hh : HeapX S β w h) (hv : VRs S β args vs) :
    Calls Tryz.prog 193 vs.toArray w (CPost none S β h w (fieldsE call args h)) := by
  unfold fieldsE at hr ⊢
  split at hr
  · rename_i s
    obtain ⟨x, r, rfl, hx, hv⟩ := str_val hv
    simp only [VRs] at hv
    subst hv
    cases hc : (decide (s.length < 4294967281) && s.all (fun b => decide (b.toNat < 128))) with
    | false => rw [hc] at hr; exact absurd rfl hr
    | true =>
      simp only [cond_true]
      rw [Bool.and_eq_true] at hc
      have hlen : x.size = s.length := by rw [← hx, Array.length_toList]; rfl
      have hasc : ∀ (j : Nat) (b : UInt8), x.data.toList[j]? = some b → b.toNat < 128 := fun j b hj => by
        rw [hx] at hj
        have := List.all_eq_true.1 hc.2 b (List.mem_of_getElem? hj)
        exact of_decide_eq_true this
      refine (Any.strings_Fields Tryz.lays157 (by kernel_rfl) (by kernel_rfl) x w (by have := of_decide_eq_true hc.1; omega) hasc (tab_asc hg.1)).mono ?_
      rintro e w' ⟨rfl, rfl⟩
      have hl : ((Lib.fields x.data.toList).map fun l => (⟨l.toArray⟩ : ByteArray)).map (·.data.toList) = Lib.fields s := by
        rw [hx, List.map_map]
        conv => rhs; rw [← List.map_id (Lib.fields s)]
        exact List.map_congr_left fun l _ => rfl
      have := strs_row S β w.heap.size ((Lib.fields x.data.toList).map fun l => (⟨l.toArray⟩ : ByteArray)) _ hl
      simp only [List.map_map, List.length_map] at this
      exact cpost_row hw hh ((Below.refl _ _).alloc (Nat.le_refl _) _) noDr (Row.new w _ _) (Nat.le_refl _) this
  · exact absurd rfl hr
end Go.Proofs.YteemeakjlfnapaaGreatDoor
