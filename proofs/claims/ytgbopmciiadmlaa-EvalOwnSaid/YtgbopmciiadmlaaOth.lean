/- The functions that are known by contracts: all but eval.try's are proved. -/
import Derived.Test.YtgbopmciiadmlaaClo
namespace Go.Proofs.Ytgbopmciiadmlaa
open Go Go.Av
set_option maxRecDepth 100000
theorem bif_cases {α : Type} {f k : Nat} {x : α} {o : Option α} {y : α} (h : (bif Nat.beq f k then some x else o) = some y) : (f = k ∧ x = y) ∨ o = some y := by
  cases hb : Nat.beq f k with
  | true => rw [hb] at h; exact .inl ⟨Nat.eq_of_beq_eq_true hb, by simpa using h⟩
  | false => rw [hb] at h; exact .inr h
def TryOK : Prop := ∀ call, CallsOK Try.prog own call → ∀ (args : List AV) (h : Hp) (S : Stab) (β : List Blk) (w : World) (vs : List Value), tryE 33 .i64 (.agg [.int .i64 0, .int .i64 0, .sl [], .sl []]) call args h ≠ .fail → GOK β h w → Wf S w → HeapX S β w h → VRs S β args vs →
  Calls Try.prog 40 vs.toArray w (CPost none S β h w (tryE 33 .i64 (.agg [.int .i64 0, .int .i64 0, .sl [], .sl []]) call args h))
theorem good_of (H : TryOK) : GoodPg Try.prog pg where
  tok := tok
  funcs := funcs_ok
  other := by
    intro f E hE call hC args h S β w vs hr hg hw hh hv
    have h0 : other f = some E := hE
    unfold other at h0
    rcases bif_cases h0 with ⟨rfl, rfl⟩ | h0
    · exact ⟨oth39 call args h S β w vs hr hg hw hh hv, by kernel_rfl⟩
    rcases bif_cases h0 with ⟨rfl, rfl⟩ | h0
    · exact ⟨H call hC args h S β w vs hr hg hw hh hv, by kernel_rfl⟩
    rcases bif_cases h0 with ⟨rfl, rfl⟩ | h0
    · exact ⟨oth96 call args h S β w vs hr hg hw hh hv, by kernel_rfl⟩
    cases h0
  nw := by
    intro f hf
    have h0 : (bif Nat.beq f 39 then true else false) = true := hf
    cases hb : Nat.beq f 39 with
    | true =>
      have := Nat.eq_of_beq_eq_true hb
      subst this
      exact ⟨_, rfl, fun call args => cloneH_nw _ _ _ _⟩
    | false => rw [hb] at h0; cases h0
end Go.Proofs.Ytgbopmciiadmlaa
