/- The calls of a function: what the program computes. No condition. -/
import Derived.Test.YtpnonheegflllaaSh0
import Derived.Test.YtpnonheegflllaaMaps
import Derived.Test.YtpnonheegflllaaLd
namespace Go.Proofs.Ytpnonheegflllaa
open Go Go.Av Go.Av.Ap
set_option maxRecDepth 100000
theorem bnd_ok {α β : Type} {m : M α} {f : α → M β} {h h' : Hp} {a : α} (e : m h = .ok a h') : bnd m f h = f a h' := by simp only [bnd, e]
section
variable {V : Type} {f : V → AV} {t et : Nat} {ei : TI} {h : Hp} {l : Nat} {es : List (Ref × V)}
theorem lookH_ent (hm : mapTy T t = some (24, et)) (he : T et = some ei) (hl : h[l]? = some [.tup (es.map (entA f))]) (k : Ref) (ok : Bool) :
    lookH T t (.mp l) (refA k) ok h = .ok (match getK es k with | some v => (bif ok then .tup [f v, .bool true] else f v) | none => (bif ok then .tup [zeroEl ei, .bool false] else zeroEl ei)) h := by
  unfold lookH entsA
  simp only [hl, look_ent f hm he]
  cases getK es k <;> rfl
theorem putH_ent (hm : mapTy T t = some (24, et)) (hl : h[l]? = some [.tup (es.map (entA f))]) (k : Ref) (v : V) :
    putH T t (.mp l) (refA k) (f v) h = .ok (.tup []) (h.set l [.tup ((putK es k v).map (entA f))]) := by
  unfold putH
  have hc : ckV T 20 24 (refA k) = true := rfl
  simp only [hm, hc, cond_true, hl, put_ent f]
end
theorem zero48 : ∃ ei, T 48 = some ei ∧ zeroEl ei = zeroF.av := ⟨_, rfl, rfl⟩
theorem zero24 : ∃ ei, T 24 = some ei ∧ zeroEl ei = refA ([], []) := ⟨_, rfl, rfl⟩
def IsIdx (p : List Mod) (h : Hp) (l : Nat) : Prop := h[l]? = some [.tup ((idxP p).map (entA Fun.av))]
theorem look_fun {p : List Mod} {h : Hp} {l : Nat} (hl : IsIdx p h l) (k : Ref) (ok : Bool) : lookH T 56 (.mp l) (refA k) ok h = .ok (bif ok then .tup [((findR p k).getD zeroF).av, .bool (findR p k).isSome] else ((findR p k).getD zeroF).av) h := by
  obtain ⟨ei, h1, h2⟩ := zero48
  rw [lookH_ent mt56 h1 hl, idx_get, h2]
  cases findR p k <;> cases ok <;> rfl
theorem loop42 (l : List Str) (hb : l.length ≤ 1099511627776) : ∀ (n : Nat) (i : Int), l.length - i.toNat = n → 0 ≤ i → i ≤ l.length →
    fixW (L42_0 (callW pg) fixW) [.str [], strs l, .int .i64 l.length, .int .i64 i] = M.pure (.str (((l.drop i.toNat).find? fun x => !(x == [])).getD [])) := by
  intro n
  induction n with
  | zero =>
    intro i hn hi hl
    rw [FL42_0]
    simp only [L42_0]
    have h1 : ¬ (i < (l.length : Int)) := by omega
    have h2 : l.drop i.toNat = [] := List.drop_eq_nil_of_le (by omega)
    simp [h1, h2]
  | succ n ih =>
    intro i hn hi hl
    have h1 : i < (l.length : Int) := by omega
    have hlt : i.toNat < l.length := by omega
    have h4 := ih (i + 1) (by omega) (by omega) (by omega)
    rw [show (i + 1).toNat = i.toNat + 1 by omega] at h4
    rw [FL42_0, List.drop_eq_getElem_cons hlt]
    simp only [L42_0, List.find?_cons]
    by_cases h0 : l[i.toNat] = []
    · simp (disch := omega) [h1, wrap_in, IX35, h4, h0, getElem!_pos l i.toNat hlt]
    · have h0' : (l[i.toNat] == []) = false := beq_eq_false_iff_ne.2 h0
      simp (disch := omega) [h1, wrap_in, IX35, h0, h0', getElem!_pos l i.toNat hlt]
theorem t42 (a b : Str) : callW pg 42 [strs [a, b]] = M.pure (.str (if a = [] then b else a)) := by
  rw [C42]
  have := loop42 [a, b] (by simp) 2 0 rfl (by omega) (by simp)
  simp at this
  simp [S42, this]
  by_cases h1 : a = []
  · by_cases h2 : b = []
    · simp [h1, h2]
    · have : (b == []) = false := beq_eq_false_iff_ne.2 h2
      simp only [h1, List.isEmpty_nil, Bool.not_true, if_true]
      cases b with
      | nil => exact absurd rfl h2
      | cons c b => rfl
  · have : (a == []) = false := beq_eq_false_iff_ne.2 h1
    simp [h1, this]
theorem t41 (p : List Mod) (f : Ref) (e : Exp) (h : Hp) (la lf : Nat) (o : List (Ref × Bool)) (ha : IsIdx p h la) (hf : h[lf]? = some [.tup (o.map (entA AV.bool))]) :
    callW pg 41 [e.av, .ip [.str f.1, .str f.2], .ip [.mp la], .ip [.mp lf]] h = .ok (.tup []) (h.set lf [.tup ((foundS p f o e).map (entA AV.bool))]) := by
  rw [C41]
  have hB : ∀ x y : Str, buildSliceA T 35 2 [(0, .str x), (1, .str y)] = some (strs [x, y]) := fun x y => rfl
  have hB2 : ∀ x y : Str, buildA T false 24 [(0, .str x), (1, .str y)] = some (refA (x, y)) := fun x y => rfl
  have hset : h.set lf [.tup (o.map (entA AV.bool))] = h := by
    apply List.ext_getElem?
    intro i
    rw [List.getElem?_set]
    split
    · rename_i hi; subst hi
      obtain ⟨h1, h2⟩ := List.getElem?_eq_some_iff.1 hf
      simp [h1, h2]
    · rfl
  have hlook := look_fun ha (tgt f e) true
  have hput := putH_ent (f := AV.bool) mt83 hf (tgt f e) true
  have htg : tgt f e = (if e.m = [] then f.1 else e.m, e.s) := rfl
  simp [S41, hB, t42, hB2, noPan_pure]
  rw [← htg]
  have hcm : cellsM 2 (refA (tgt f e)) = M.pure (refA (tgt f e)) := by rw [cellsM_of (okEl_ref _), acells_ref, fold_ref]
  simp [hcm]
  rw [bnd_ok hlook]
  unfold foundS callB
  cases hfi : findR p (tgt f e) with
  | none => simp [hfi, hset]; rfl
  | some g =>
    simp [hfi]
    split
    · rw [bnd_ok hput]; rfl
    · rw [hset]; rfl
end Go.Proofs.Ytpnonheegflllaa
