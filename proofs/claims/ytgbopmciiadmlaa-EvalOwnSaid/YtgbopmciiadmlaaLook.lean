/- What the functions that look for modules, functions and variables compute. No condition. -/
import Derived.Test.YtgbopmciiadmlaaRef
namespace Go.Proofs.Ytgbopmciiadmlaa
open Go Go.Av Go.Av.Ap
theorem loop63 (f : AV) (F : Mod → Bool) (l : List Mod) (hb : l.length ≤ 4611686018427387904) (hf : ∀ x ∈ l, callV (callW pg) f [Mod.av x] = M.pure (.bool (F x))) : ∀ (n : Nat) (i : Int), l.length - i.toNat = n → 0 ≤ i → i ≤ l.length →
    fixW (L63_0 (callW pg) fixW) [mods l, f, .int .i64 l.length, .int .i64 i] = M.pure (.int .i64 (idxAt F (l.drop i.toNat) i)) := by
  intro n
  induction n with
  | zero =>
    intro i hn hi hl
    rw [FL63_0]
    simp only [L63_0]
    have h1 : ¬ (i < (l.length : Int)) := by omega
    have h2 : l.drop i.toNat = [] := List.drop_eq_nil_of_le (by omega)
    simp [h1, h2, idxAt]
  | succ n ih =>
    intro i hn hi hl
    have h1 : i < (l.length : Int) := by omega
    have hlt : i.toNat < l.length := by omega
    have h2 : idxAt F (l.drop i.toNat) i = if F l[i.toNat] = true then i else idxAt F (l.drop (i.toNat + 1)) (i + 1) := by rw [List.drop_eq_getElem_cons hlt]; rfl
    have h3 := hf l[i.toNat] (List.getElem_mem hlt)
    have h4 := ih (i + 1) (by omega) (by omega) (by omega)
    rw [show (i + 1).toNat = i.toNat + 1 by omega] at h4
    rw [FL63_0]
    simp only [L63_0]
    simp (disch := omega) [h1, wrap_in, IX22, h3, h2]
    cases F l[i.toNat]
    · simpa using h4
    · simp
theorem t63 (f : AV) (F : Mod → Bool) (l : List Mod) (hb : l.length ≤ 4611686018427387904) (hc : ∀ g, cl g f = f) (hf : ∀ x ∈ l, callV (callW pg) f [Mod.av x] = M.pure (.bool (F x))) : callW pg 63 [mods l, f] = M.pure (.int .i64 (idxAt F l 0)) := by
  rw [C63]
  simp [S63, hc, loop63 f F l hb hf l.length 0 rfl (by omega) (by omega)]
theorem t58 (f : AV) (F : Mod → Bool) (l : List Mod) (hb : l.length ≤ 4611686018427387904) (hc : ∀ g, cl g f = f) (hf : ∀ x ∈ l, callV (callW pg) f [Mod.av x] = M.pure (.bool (F x))) : callW pg 58 [mods l, f] = M.pure (.bool (l.any F)) := by
  rw [C58]
  simp [S58, hc, t63 f F l hb hc hf, idxAt_any]
theorem loop65 (f : AV) (F : Fun → Bool) (l : List Fun) (hb : l.length ≤ 4611686018427387904) (hf : ∀ x ∈ l, callV (callW pg) f [Fun.av x] = M.pure (.bool (F x))) : ∀ (n : Nat) (i : Int), l.length - i.toNat = n → 0 ≤ i → i ≤ l.length →
    fixW (L65_0 (callW pg) fixW) [funs l, f, .int .i64 l.length, .int .i64 i] = M.pure (.int .i64 (idxAt F (l.drop i.toNat) i)) := by
  intro n
  induction n with
  | zero =>
    intro i hn hi hl
    rw [FL65_0]
    simp only [L65_0]
    have h1 : ¬ (i < (l.length : Int)) := by omega
    have h2 : l.drop i.toNat = [] := List.drop_eq_nil_of_le (by omega)
    simp [h1, h2, idxAt]
  | succ n ih =>
    intro i hn hi hl
    have h1 : i < (l.length : Int) := by omega
    have hlt : i.toNat < l.length := by omega
    have h2 : idxAt F (l.drop i.toNat) i = if F l[i.toNat] = true then i else idxAt F (l.drop (i.toNat + 1)) (i + 1) := by rw [List.drop_eq_getElem_cons hlt]; rfl
    have h3 := hf l[i.toNat] (List.getElem_mem hlt)
    have h4 := ih (i + 1) (by omega) (by omega) (by omega)
    rw [show (i + 1).toNat = i.toNat + 1 by omega] at h4
    rw [FL65_0]
    simp only [L65_0]
    simp (disch := omega) [h1, wrap_in, IX59, h3, h2]
    cases F l[i.toNat]
    · simpa using h4
    · simp
theorem t65 (f : AV) (F : Fun → Bool) (l : List Fun) (hb : l.length ≤ 4611686018427387904) (hc : ∀ g, cl g f = f) (hf : ∀ x ∈ l, callV (callW pg) f [Fun.av x] = M.pure (.bool (F x))) : callW pg 65 [funs l, f] = M.pure (.int .i64 (idxAt F l 0)) := by
  rw [C65]
  simp [S65, hc, loop65 f F l hb hf l.length 0 rfl (by omega) (by omega)]
theorem loop98 (f : AV) (F : Fld → Bool) (l : List Fld) (hb : l.length ≤ 4611686018427387904) (hf : ∀ x ∈ l, callV (callW pg) f [fldAv x] = M.pure (.bool (F x))) : ∀ (n : Nat) (i : Int), l.length - i.toNat = n → 0 ≤ i → i ≤ l.length →
    fixW (L98_0 (callW pg) fixW) [flds l, f, .int .i64 l.length, .int .i64 i] = M.pure (.int .i64 (idxAt F (l.drop i.toNat) i)) := by
  intro n
  induction n with
  | zero =>
    intro i hn hi hl
    rw [FL98_0]
    simp only [L98_0]
    have h1 : ¬ (i < (l.length : Int)) := by omega
    have h2 : l.drop i.toNat = [] := List.drop_eq_nil_of_le (by omega)
    simp [h1, h2, idxAt]
  | succ n ih =>
    intro i hn hi hl
    have h1 : i < (l.length : Int) := by omega
    have hlt : i.toNat < l.length := by omega
    have h2 : idxAt F (l.drop i.toNat) i = if F l[i.toNat] = true then i else idxAt F (l.drop (i.toNat + 1)) (i + 1) := by rw [List.drop_eq_getElem_cons hlt]; rfl
    have h3 := hf l[i.toNat] (List.getElem_mem hlt)
    have h4 := ih (i + 1) (by omega) (by omega) (by omega)
    rw [show (i + 1).toNat = i.toNat + 1 by omega] at h4
    rw [FL98_0]
    simp only [L98_0]
    simp (disch := omega) [h1, wrap_in, IX58, h3, h2]
    cases F l[i.toNat]
    · simpa using h4
    · simp
theorem t98 (f : AV) (F : Fld → Bool) (l : List Fld) (hb : l.length ≤ 4611686018427387904) (hc : ∀ g, cl g f = f) (hf : ∀ x ∈ l, callV (callW pg) f [fldAv x] = M.pure (.bool (F x))) : callW pg 98 [flds l, f] = M.pure (.int .i64 (idxAt F l 0)) := by
  rw [C98]
  simp [S98, hc, loop98 f F l hb hf l.length 0 rfl (by omega) (by omega)]
theorem t64 (m : Mod) (s : Str) : callW pg 64 [m.av, .ip [.str s]] = M.pure (.bool (m.name == s)) := by
  rw [C64]; simp [S64, cl, cls]
theorem t66 (f : Fun) (s : Str) : callW pg 66 [f.av, .ip [.str s]] = M.pure (.bool (f.name == s)) := by
  rw [C66]; simp [S66, cl, cls]
theorem t59 (m w : Mod) : callW pg 59 [m.av, .ip (acells w.av)] = M.pure (.bool (m.name == w.name)) := by
  rw [C59]; simp [S59, cl, cls]
theorem t63' (p : List Mod) (hp : p.length ≤ 4611686018427387904) (s : Str) : callW pg 63 [mods p, .fn (.func 64) [] [.ip [.str s]]] = M.pure (.int .i64 (modAt p s)) :=
  t63 _ _ p hp (fun g => rfl) (fun m _ => t64 m s)
theorem t65' (p : List Fun) (hp : p.length ≤ 4611686018427387904) (s : Str) : callW pg 65 [funs p, .fn (.func 66) [] [.ip [.str s]]] = M.pure (.int .i64 (funAt p s)) :=
  t65 _ _ p hp (fun g => rfl) (fun m _ => t66 m s)
theorem t74 (n : Int) : callW pg 74 [.int .i64 n] = M.pure (Val.mk 0 n [] []).av := by
  rw [C74]
  rfl
theorem t75 (b : Bool) : callW pg 75 [.bool b] = M.pure (truthV b).av := by
  rw [C75]
  cases b <;> rfl
theorem t69 (b : Bool) (n : Int) : callW pg 69 [.bool b, .int .i64 n] = if b = true then M.pure (.tup []) else throwM (.iface 33 (.int .i64 n)) := by
  rw [C69]
  cases b <;> rfl
theorem clip25 (l : List Str) : sliceA T 25 (strs l) none (some (.int .i64 l.length)) (some (.int .i64 l.length)) = some (strs l) := by
  have := sliceA_clip (T := T) (t := 25) (e := 9) rfl rfl rfl (l.map AV.str)
  simpa [strs] using this
theorem clip23 (l : List Val) : sliceA T 23 (vals l) none (some (.int .i64 l.length)) (some (.int .i64 l.length)) = some (vals l) := by
  have := sliceA_clip (T := T) (t := 23) (e := 39) rfl rfl rfl (valsAv l)
  simpa [vals, valsAv_map] using this
theorem t94 (l : List Str) : callW pg 94 [strs l] = M.pure (strs l) := by
  rw [C94]
  simp [S94, clip25, isoP_pure (a := strs l) fun g => cl_strs g l]
theorem t95 (l : List Val) : callW pg 95 [vals l] = M.pure (vals l) := by
  rw [C95]
  simp [S95, clip23]
end Go.Proofs.Ytgbopmciiadmlaa
