/- Maps whose keys are references, and one whose keys are strings: what the operations do. No condition. -/
import Derived.Test.YtpnonheegflllaaOps
import Derived.Test.YtpnonheegflllaaLd
namespace Go.Proofs.Ytpnonheegflllaa
open Go Go.Av Go.Av.Ap
set_option maxRecDepth 100000
theorem eq24 (a b : Ref) : eqA T 20 24 (refA a) (refA b) = some (decide (a = b)) := by
  obtain ⟨a1, a2⟩ := a
  obtain ⟨b1, b2⟩ := b
  have h : eqA T 20 24 (refA (a1, a2)) (refA (b1, b2)) = (match some (a1 == b1) with | some true => (match some (a2 == b2) with | some true => some true | some false => some false | none => none) | some false => some false | none => none) := rfl
  rw [h]
  by_cases h1 : a1 = b1
  · by_cases h2 : a2 = b2
    · subst h1 h2; simp
    · have e2 : (a2 == b2) = false := beq_eq_false_iff_ne.2 h2
      subst h1
      simp [e2, h2]
  · have e1 : (a1 == b1) = false := beq_eq_false_iff_ne.2 h1
    simp [e1, h1]
def posK {V : Type} : List (Ref × V) → Ref → Nat → Option (Nat × V)
  | [], _, _ => none
  | x :: r, k, i => if x.1 = k then some (i, x.2) else posK r k (i + 1)
theorem find_ent {V : Type} (f : V → AV) : ∀ (l : List (Ref × V)) (k : Ref) (i : Nat), findA T 24 (refA k) (l.map (entA f)) i = some ((posK l k i).map fun p => (p.1, refA k, f p.2))
  | [], k, i => rfl
  | x :: r, k, i => by
    simp only [List.map_cons, entA, findA, eq24, posK]
    by_cases h : k = x.1
    · subst h; simp
    · have h' : ¬ (x.1 = k) := fun e => h e.symm
      simp only [h, decide_false, h', if_false]
      exact find_ent f r k (i + 1)
theorem posK_get {V : Type} : ∀ (l : List (Ref × V)) (k : Ref) (i : Nat), (posK l k i).map (·.2) = getK l k
  | [], _, _ => rfl
  | x :: r, k, i => by
    simp only [posK, getK]
    by_cases h : x.1 = k
    · simp [h]
    · simp only [h, if_false]; exact posK_get r k (i + 1)
theorem posK_put {V : Type} (v : V) : ∀ (l : List (Ref × V)) (k : Ref) (i : Nat), (posK l k i = none ∧ putK l k v = l ++ [(k, v)]) ∨ ∃ j u, posK l k i = some (i + j, u) ∧ j < l.length ∧ putK l k v = l.set j (k, v)
  | [], k, i => .inl ⟨rfl, rfl⟩
  | x :: r, k, i => by
    simp only [posK, putK]
    by_cases h : x.1 = k
    · exact .inr ⟨0, x.2, by simp [h], by simp, by simp [h]⟩
    · simp only [h, if_false]
      rcases posK_put v r k (i + 1) with ⟨h1, h2⟩ | ⟨j, u, h1, h2, h3⟩
      · exact .inl ⟨h1, by rw [h2]; rfl⟩
      · exact .inr ⟨j + 1, u, by rw [h1]; congr 2; omega, by simpa using h2, by rw [h3]; rfl⟩
theorem put_ent {V : Type} (f : V → AV) (l : List (Ref × V)) (k : Ref) (v : V) : putA T 24 (l.map (entA f)) (refA k) (f v) = some ((putK l k v).map (entA f)) := by
  unfold putA
  rw [find_ent]
  rcases posK_put v l k 0 with ⟨h1, h2⟩ | ⟨j, u, h1, h2, h3⟩
  · rw [h1, h2]; simp [entA]
  · rw [h1, h3]
    have hs : sameA (refA k) (refA k) = true := by
      show (k.1 == k.1 && (k.2 == k.2 && true)) = true
      rw [beq_self_eq_true, beq_self_eq_true]; rfl
    simp only [Option.map_some, hs, cond_true, Nat.zero_add, List.map_set]
    rfl
theorem look_ent {V : Type} (f : V → AV) {t et : Nat} {ei : TI} (hm : mapTy T t = some (24, et)) (he : T et = some ei) (l : List (Ref × V)) (k : Ref) (ok : Bool) :
    lookA T t (l.map (entA f)) (refA k) ok = some (match getK l k with | some v => (bif ok then .tup [f v, .bool true] else f v) | none => (bif ok then .tup [zeroEl ei, .bool false] else zeroEl ei)) := by
  unfold lookA
  have hc : ckV T 20 24 (refA k) = true := rfl
  simp only [hm, hc, cond_true, he, find_ent]
  rw [← posK_get l k 0]
  cases posK l k 0 <;> rfl
def seenA (n : Str) : AV := .tup [.str n, .bool true]
theorem eqS (a b : Str) : eqA T 20 9 (.str a) (.str b) = some (a == b) := rfl
theorem find_seen : ∀ (l : List Str) (n : Str) (i : Nat), ∃ r, findA T 9 (.str n) (l.map seenA) i = some r ∧ ((n ∈ l ∧ ∃ j, r = some (j, .str n, .bool true)) ∨ (n ∉ l ∧ r = none))
  | [], n, i => ⟨none, rfl, .inr ⟨by simp, rfl⟩⟩
  | x :: l, n, i => by
    simp only [List.map_cons, seenA, findA, eqS]
    by_cases h : n = x
    · subst h
      exact ⟨_, by simp, .inl ⟨by simp, i, rfl⟩⟩
    · have e : (n == x) = false := beq_eq_false_iff_ne.2 h
      rw [e]
      obtain ⟨r, h1, h2⟩ := find_seen l n (i + 1)
      refine ⟨r, h1, ?_⟩
      rcases h2 with ⟨h2, h3⟩ | ⟨h2, h3⟩
      · exact .inl ⟨by simp [h2], h3⟩
      · exact .inr ⟨by simp [h, h2], h3⟩
theorem look_seen (l : List Str) (n : Str) : lookA T 79 (l.map seenA) (.str n) false = some (.bool (decide (n ∈ l))) := by
  unfold lookA
  have hm : mapTy T 79 = some (9, 4) := rfl
  have hc : ckV T 20 9 (.str n) = true := rfl
  have hz : ∃ ei, T 4 = some ei ∧ zeroEl ei = .bool false := ⟨_, rfl, rfl⟩
  obtain ⟨ei, hz1, hz2⟩ := hz
  obtain ⟨r, h1, h2⟩ := find_seen l n 0
  simp only [hm, hc, cond_true, hz1, h1]
  rcases h2 with ⟨h2, j, rfl⟩ | ⟨h2, rfl⟩
  · simp [h2]
  · simp [h2, hz2]
theorem put_seen (l : List Str) (n : Str) (h : n ∉ l) : putA T 9 (l.map seenA) (.str n) (.bool true) = some ((l ++ [n]).map seenA) := by
  unfold putA
  obtain ⟨r, h1, h2⟩ := find_seen l n 0
  rcases h2 with ⟨h2, _⟩ | ⟨_, rfl⟩
  · exact absurd h2 h
  · rw [h1]; simp [seenA]
theorem mt56 : mapTy T 56 = some (24, 48) := rfl
theorem mt54 : mapTy T 54 = some (24, 24) := rfl
theorem mt83 : mapTy T 83 = some (24, 4) := rfl
theorem mt79 : mapTy T 79 = some (9, 4) := rfl
end Go.Proofs.Ytpnonheegflllaa
