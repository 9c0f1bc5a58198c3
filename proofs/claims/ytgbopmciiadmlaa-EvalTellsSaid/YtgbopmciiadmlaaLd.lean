/- The abstract evaluator of the model and plain laws, part 4: its soundness holds for every program whose table of types is the evaluator's. No further condition. -/
import Derived.Test.YtgbopmciiadmlaaLc

/- What the counts grant. No condition. -/
namespace Go.Av.Ap
open Go Go.Av
theorem capS_ge {α : Type} {most : Int} {g : α → Int → Int} : (l : List α) → (∀ x ∈ l, ∀ m, 0 ≤ m → m ≤ most → 1 ≤ g x m) → ∀ n, 1 ≤ n → n ≤ capS most g n l
 | [], _, n, _ => Int.le_refl _
 | x :: l, hg, n, h1 => by
  by_cases h : n ≤ most
  ·rw [capS_cons x l h]
   have := hg x List.mem_cons_self (most - n) (by omega) (by omega)
   have ih := capS_ge l (fun y hy => hg y (List.mem_cons_of_mem _ hy)) (n + g x (most - n)) (by omega)
   omega
  ·rw [capS_stop (by omega)]
   exact Int.le_refl _
theorem capS_fit {α : Type} {most : Int} {g : α → Int → Int} (w : α → Nat) (W : Nat) : (l : List α) → (∀ x ∈ l, ∀ m, 0 ≤ m → m ≤ most → 1 ≤ g x m) → (∀ x ∈ l, ∀ m, 0 ≤ m → m ≤ most → g x m ≤ m → (w x : Int) ≤ g x m * W) → ∀ n, 1 ≤ n → capS most g n l ≤ most →
  (l.length : Int) ≤ capS most g n l - n ∧ (∀ x ∈ l, ∃ m, 0 ≤ m ∧ m ≤ most ∧ g x m ≤ m) ∧ ((l.map w).sum : Int) ≤ (capS most g n l - n) * W
 | [], _, _, n, _, h2 => ⟨by simp [capS], (fun x hx => (by cases hx)), by simp [capS]⟩
 | x :: l, hg, hw, n, h1, h2 => by
  have hn : n ≤ most := by
   rcases Int.lt_or_le most n with h | h
   ·rw [capS_stop h] at h2; omega
   ·exact h
  rw [capS_cons x l hn] at h2 ⊢
  have a1 := hg x List.mem_cons_self (most - n) (by omega) (by omega)
  have hg' : ∀ y ∈ l, ∀ m, 0 ≤ m → m ≤ most → 1 ≤ g y m := fun y hy => hg y (List.mem_cons_of_mem _ hy)
  have a2 := capS_ge l hg' (n + g x (most - n)) (by omega)
  obtain ⟨b1, b2, b3⟩ := capS_fit w W l hg' (fun y hy => hw y (List.mem_cons_of_mem _ hy)) (n + g x (most - n)) (by omega) h2
  have a3 : g x (most - n) ≤ most - n := by omega
  have a4 := hw x List.mem_cons_self (most - n) (by omega) (by omega) a3
  refine ⟨by simp only [List.length_cons]; omega, fun y hy => ?_, ?_⟩
  ·rcases List.mem_cons.1 hy with rfl | hy
   ·exact ⟨most - n, by omega, by omega, a3⟩
   ·exact b2 y hy
  ·simp only [List.map_cons, List.sum_cons, Int.natCast_add]
   have : (capS most g (n + g x (most - n)) l - n) * (W : Int) = g x (most - n) * W + (capS most g (n + g x (most - n)) l - (n + g x (most - n))) * W := by
    rw [← Int.add_mul]
    congr 1
    omega
   rw [this]
   omega
theorem valsSz_sum : (l : List Val) → valsSz l = (l.map Val.sz).sum
 | [] => rfl
 | v :: l => by simp [valsSz, valsSz_sum l]
theorem parts_sz : ∀ (d : Nat) (v : Val), v.Lim → ∀ most : Int, 0 ≤ most → partsX d v most ≤ most → (v.sz : Int) ≤ partsX d v most * (281474976710656 : Nat)
 | 0, v, _, most, _, h => by simp only [partsX] at h; omega
 | d + 1, v, hv, most, h0, h => by
  have hl := hv.len
  have hn := hv.names
  have h1 : ∀ x ∈ v.values, ∀ m, 0 ≤ m → m ≤ most → 1 ≤ partsX d x m := fun x _ m h0 _ => (partsX_bounds d x m h0).1
  have h' : capS most (partsX d) 1 v.values ≤ most := h
  obtain ⟨_, _, h3⟩ := capS_fit Val.sz 281474976710656 v.values h1 (fun x hx m h0 _ h => parts_sz d x (hv.kid hx) m h0 h) 1 (by omega) h'
  have e : partsX (d + 1) v most = capS most (partsX d) 1 v.values := rfl
  rw [e]
  have hs : v.sz = 1 + v.names.length + valsSz v.values := by cases v; rfl
  rw [hs, valsSz_sum]
  have := capS_ge v.values h1 1 (by omega)
  rw [Int.sub_mul] at h3
  omega
theorem fewX_args {p : List Mod} {args : List Val} {world : List Int} {fuel : Int} (h : fewX p args world fuel = true) (ha : ∀ v ∈ args, v.Lim) : args.length ≤ 8 ∧ valsSz args ≤ 90071992547409920 := by
 unfold fewX at h
 simp only [Bool.and_eq_true, decide_eq_true_eq, List.all_eq_true] at h
 have hl := h.1.1.1.2
 refine ⟨hl, ?_⟩
 have key : ∀ l : List Val, (∀ v ∈ l, v ∈ args) → valsSz l ≤ l.length * 11258999068426240 := by
  intro l
  induction l with
  | nil => intro _; simp [valsSz]
  | cons v l ih =>
   intro hm
   have h1 := parts_sz 8 v (ha v (hm v List.mem_cons_self)) 40 (by omega) (h.2.2 v (hm v List.mem_cons_self))
   have h2 := h.2.2 v (hm v List.mem_cons_self)
   have h3 := ih fun w hw => hm w (List.mem_cons_of_mem _ hw)
   simp only [valsSz, List.length_cons]
   omega
 have := key args fun v hv => hv
 omega
end Go.Av.Ap
