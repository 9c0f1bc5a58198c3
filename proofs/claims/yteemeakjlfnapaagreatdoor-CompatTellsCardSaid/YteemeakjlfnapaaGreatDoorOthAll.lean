/- The functions that are known by other means are right. No condition. -/
import Derived.Test.YteemeakjlfnapaaGreatDoorOthC
import Derived.Test.YteemeakjlfnapaaGreatDoorOthF
import Derived.Test.YteemeakjlfnapaaGreatDoorOthB
import Derived.Test.YteemeakjlfnapaaGreatDoorOthL
import Derived.Test.YteemeakjlfnapaaGreatDoorClo
namespace Go.Proofs.YteemeakjlfnapaaGreatDoor
open Go Go.Av Go.RowKit
set_option maxRecDepth 100000
theorem bif_cases {α : Type} {f k : Nat} {x : α} {o : Option α} {y : α} (h : (bif Nat.beq f k then some x else o) = some y) : (f = k ∧ x = y) ∨ o = some y := by
  cases hb : Nat.beq f k with
  | true => rw [hb] at h; exact .inl ⟨Nat.eq_of_beq_eq_true hb, by simpa using h⟩
  | false => rw [hb] at h; exact .inr h
theorem bif_b {f k : Nat} {o : Bool} (h : (bif Nat.beq f k then true else o) = true) : f = k ∨ o = true := by
  cases hb : Nat.beq f k with
  | true => exact .inl (Nat.eq_of_beq_eq_true hb)
  | false => rw [hb] at h; exact .inr h
theorem good : GoodPg Tryz.prog pg where
  tok := tok
  funcs := funcs_ok
  other := by
    intro f E hE call hC args h S β w vs hr hg hw hh hv
    have h0 : other f = some E := hE
    unfold other at h0
    rcases bif_cases h0 with ⟨rfl, rfl⟩ | h0
    · exact ⟨oth87 call args h S β w vs hr hg hw hh hv, by kernel_rfl⟩
    rcases bif_cases h0 with ⟨rfl, rfl⟩ | h0
    · exact ⟨oth103 call args h S β w vs hr hg hw hh hv, by kernel_rfl⟩
    rcases bif_cases h0 with ⟨rfl, rfl⟩ | h0
    · exact absurd rfl hr
    rcases bif_cases h0 with ⟨rfl, rfl⟩ | h0
    · exact ⟨oth147 call args h S β w vs hr hg hw hh hv, by kernel_rfl⟩
    rcases bif_cases h0 with ⟨rfl, rfl⟩ | h0
    · exact ⟨oth152 call args h S β w vs hr hg hw hh hv, by kernel_rfl⟩
    rcases bif_cases h0 with ⟨rfl, rfl⟩ | h0
    · exact ⟨oth153 call args h S β w vs hr hg hw hh hv, by kernel_rfl⟩
    rcases bif_cases h0 with ⟨rfl, rfl⟩ | h0
    · exact ⟨oth163 call args h S β w vs hr hg hw hh hv, by kernel_rfl⟩
    rcases bif_cases h0 with ⟨rfl, rfl⟩ | h0
    · exact ⟨oth181 call args h S β w vs hr hg hw hh hv, by kernel_rfl⟩
    rcases bif_cases h0 with ⟨rfl, rfl⟩ | h0
    · exact ⟨oth193 call args h S β w vs hr hg hw hh hv, by kernel_rfl⟩
    rcases bif_cases h0 with ⟨rfl, rfl⟩ | h0
    · exact absurd rfl hr
    cases h0
  nw := by
    intro f hf
    have h0 : (bif Nat.beq f 103 then true else bif Nat.beq f 163 then true else false) = true := hf
    rcases bif_b h0 with rfl | h0
    · exact ⟨_, rfl, cloneH_nw T 54⟩
    rcases bif_b h0 with rfl | h0
    · exact ⟨_, rfl, cloneH_nw T 25⟩
    cases h0
end Go.Proofs.YteemeakjlfnapaaGreatDoor
