/- What few grants. Equal outcomes are alike. No condition. -/
import Derived.Test.YtgbopmciiadmlaaLaw3
import Derived.Test.YtgbopmciiadmlaaRun
import Derived.Test.YtgbopmciiadmlaaLd
namespace Go.Proofs.Ytgbopmciiadmlaa
open Go Go.Av Go.Av.Ap
mutual
theorem sameP_refl : (v : Val) → sameP v v = true
  | .mk k n ns vs => by
    simp only [sameP, beq_self_eq_true, Bool.true_and]
    exact samesP_refl vs
theorem samesP_refl : (l : List Val) → samesP l l = true
  | [] => rfl
  | v :: l => by
    simp only [samesP, sameP_refl v, samesP_refl l, Bool.and_self]
end
theorem fitsPR : ∀ (d : Nat) (v : Val), fitsP d v = true → fitsR d v = true
  | 0, _, h => by simp [fitsP] at h
  | d + 1, v, h => by
    unfold fitsP at h
    unfold fitsR
    split at h
    · rename_i hk
      simp only [Bool.and_eq_true, Bool.or_eq_true, beq_iff_eq] at h hk
      have hn0 : v.names.length = 0 := h.1.1
      have hv0 : v.values.length = 0 := h.1.2
      have hn : v.names = [] := List.eq_nil_of_length_eq_zero hn0
      have hv : v.values = [] := List.eq_nil_of_length_eq_zero hv0
      rcases hk with hk | hk
      · simp [hk, hn, hv]
      · have h3 : v.n = 0 ∨ v.n = 1 := by
          rcases h.2 with (h | h) | h
          · rw [hk] at h; exact absurd h (by decide)
          · exact .inl h
          · exact .inr h
        rcases h3 with h3 | h3 <;> simp [hk, h3, hn, hv]
    · rename_i hk
      simp only [Bool.and_eq_true, beq_iff_eq, decide_eq_true_eq, List.all_eq_true] at h
      have h1 : v.kind = 2 := h.1.1.1.1.1
      have h2 : v.n = 0 := h.1.1.1.1.2
      have h3 : v.names.length = v.values.length := h.1.1.1.2
      have h4 : v.names.length ≤ 8 := h.1.1.2
      have h5 : ¬ 8 < v.values.length := by omega
      have h6 : asc v.names = true := h.1.2
      have h7 : ∀ x ∈ v.values, fitsR d x = true := fun x hx => fitsPR d x (h.2 x hx)
      simp [h1, h2, h3, h5, h6]
      exact h7
theorem valsEq_refl : (l : List Val) → (∀ v ∈ l, Rv v) → valsEq l l = true
  | [], _ => rfl
  | v :: l, h => by
    have h1 := fitsPR 4 v (h v List.mem_cons_self)
    have h2 := valsEq_refl l fun w hw => h w (List.mem_cons_of_mem _ hw)
    unfold valsEq at h2 ⊢
    simp only [all2, h1, sameP_refl, h2, Bool.and_self]
theorem varsEq_refl : (l : List Vars) → (∀ x ∈ l, ∀ v ∈ x.values, Rv v) → all2 varsEq l l = true
  | [], _ => rfl
  | x :: l, h => by
    have h1 := valsEq_refl x.values (h x List.mem_cons_self)
    have h2 := varsEq_refl l fun w hw => h w (List.mem_cons_of_mem _ hw)
    simp only [all2, varsEq, beq_self_eq_true, h1, h2, Bool.and_self]
theorem callEq_refl (c : Ap.Call) (h : ∀ v ∈ c.args, Rv v) : callEq c c = true := by
  unfold callEq
  simp only [beq_self_eq_true, valsEq_refl c.args h, Bool.and_self]
theorem hist_prefix {a b : Out} (hd : b.deeds <+: a.deeds) (hc : b.calls <+: a.calls) (hr : ∀ c ∈ b.calls, ∀ v ∈ c.args, Rv v) : histX a b = true := by
  unfold histX
  have h1 := hd.length_le
  have h2 := hc.length_le
  simp only [Bool.and_eq_true, decide_eq_true_eq, List.all_eq_true, List.mem_range'_1]
  refine ⟨⟨h1, h2⟩, fun k hk => ?_, fun k hk => ?_⟩
  · have e : a.deeds[k]! = b.deeds[k]! := by
      rw [getElem!_pos a.deeds k (by omega), getElem!_pos b.deeds k (by omega)]
      exact (hd.getElem (by omega)).symm
    rw [e]
    simp [deedEq]
  · have e : a.calls[k]! = b.calls[k]! := by
      rw [getElem!_pos a.calls k (by omega), getElem!_pos b.calls k (by omega)]
      exact (hc.getElem (by omega)).symm
    rw [e]
    refine callEq_refl _ (hr _ ?_)
    rw [getElem!_pos b.calls k (by omega)]
    exact List.getElem_mem _
theorem alike_refl {a : Out} (h : RightO a) : alikeX a a = true := by
  unfold alikeX sameR
  rw [hist_prefix (List.prefix_refl _) (List.prefix_refl _) h.2.1, varsEq_refl _ h.2.2, fitsPR 4 _ h.1, sameP_refl]
  simp
theorem outLim_of {B n : Nat} {o : Out} (h : OutB B n o) (hr : RightO o) (hB : B ≤ 274877906944) (hn : n ≤ 140737488355328) : OutLim o where
  deeds := by have := h.deeds; omega
  calls := by have := h.calls; omega
  args := fun c hc => Nat.le_trans (vals_right_sz _ (hr.2.1 c hc)) (by have := h.args c hc; omega)
  state := ⟨Nat.le_trans h.state hn, fun x hx => Nat.le_trans (vals_right_sz _ (hr.2.2 x hx)) (by have := h.vals x hx; omega)⟩
  value := Nat.le_trans (right_sz hr.1) (by omega)
end Go.Proofs.Ytgbopmciiadmlaa
