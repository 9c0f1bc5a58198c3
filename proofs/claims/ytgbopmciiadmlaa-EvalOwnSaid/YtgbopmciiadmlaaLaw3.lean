/- What states, history and alike compute. Condition: bounds. -/
import Derived.Test.YtgbopmciiadmlaaLaw2
namespace Go.Proofs.Ytgbopmciiadmlaa
open Go Go.Av Go.Av.Ap
def valsEq (a b : List Val) : Bool := all2 (fun v w => fitsR 4 v && fitsR 4 w && sameP v w) a b
def varsEq (x y : Vars) : Bool := x.module == y.module && valsEq x.values y.values
def StLim (l : List Vars) : Prop := l.length ≤ 140737488355328 ∧ ∀ x ∈ l, valsSz x.values ≤ 4611686018427387904
theorem t12 (a b : List Vars) (ha : StLim a) (hb : StLim b) : callW pg 12 [varss a, varss b] = M.pure (.bool (all2 varsEq a b)) := by
  have hla := ha.1
  rw [C12]
  by_cases hl : a.length = b.length
  · have hloop := fix_all (FL12_0 (callW pg)) (fun k => [varss a, varss b, .int .i64 (k : Int)]) a.length (fun k => varsEq a[k]! b[k]!)
      (by simp [L12_0]) (fun k hk => by
        have a1 : k < b.length := by omega
        have hk' : (k : Int) < (a.length : Int) := by omega
        have hx := t26 a[k].values b[k].values (ha.2 _ (List.getElem_mem hk)) (hb.2 _ (List.getElem_mem a1))
        simp only [L12_0, varsEq, valsEq]
        simp (disch := omega) [hk, hk', a1, wrap_in, IX32, hx]
        by_cases hm : a[k].module = b[k].module
        · cases hv : all2 (fun v w => fitsR 4 v && fitsR 4 w && sameP v w) a[k].values b[k].values <;> simp [hm]
        · simp [hm]) 0 (Nat.zero_le _)
    have := all_range2 varsEq a b hl
    simp only [Nat.sub_zero, this] at hloop
    simp at hloop
    simp [S12, hl, hloop]
  · simp [S12, hl, all2_length _ a b hl]
def deedEq (d e : Deed) : Bool := d.effect == e.effect && d.arg == e.arg && d.answer == e.answer
theorem deed_neq (d e : Deed) : binA T .neq 55 d.av e.av = some (.bool (!(deedEq d e))) := by
  have h : eqA T 20 55 d.av e.av = some (deedEq d e) := by
    have h0 : eqA T 20 55 d.av e.av = (match some (d.effect == e.effect) with
      | some true => (match some (d.arg == e.arg) with
        | some true => (match some (d.answer == e.answer) with
          | some true => some true
          | some false => some false
          | none => none)
        | some false => some false
        | none => none)
      | some false => some false
      | none => none) := rfl
    rw [h0]
    unfold deedEq
    cases h1 : d.effect == e.effect <;> cases h2 : d.arg == e.arg <;> cases h3 : d.answer == e.answer <;> rfl
  show (eqA T 20 55 d.av e.av).map _ = _
  rw [h]
  rfl
structure OutLim (o : Out) : Prop where
  deeds : o.deeds.length ≤ 140737488355328
  calls : o.calls.length ≤ 140737488355328
  args : ∀ c ∈ o.calls, valsSz c.args ≤ 4611686018427387904
  state : StLim o.state
  value : o.value.sz ≤ 4611686018427387904
def callEq (x y : Ap.Call) : Bool := x.module == y.module && x.func == y.func && valsEq x.args y.args
theorem loop25_0 (a b : Out) (ha : OutLim a) (hb : OutLim b) (hl : b.calls.length ≤ a.calls.length) : fixW (L25_0 (callW pg) fixW) [.ip (acells a.av), .ip (acells b.av), .int .i64 0] = M.pure (.bool ((List.range' 0 b.calls.length).all fun k => callEq a.calls[k]! b.calls[k]!)) := by
  have hlb := hb.calls
  have hloop := fix_all (FL25_0 (callW pg)) (fun k => [.ip (acells a.av), .ip (acells b.av), .int .i64 (k : Int)]) b.calls.length (fun k => callEq a.calls[k]! b.calls[k]!)
    (by simp [L25_0]) (fun k hk => by
      have a1 : k < a.calls.length := by omega
      have hk' : (k : Int) < (b.calls.length : Int) := by omega
      have hx := t26 a.calls[k].args b.calls[k].args (ha.args _ (List.getElem_mem a1)) (hb.args _ (List.getElem_mem hk))
      simp only [L25_0, callEq, valsEq]
      simp (disch := omega) [hk, hk', a1, wrap_in, IX41, hx]
      by_cases hm : a.calls[k].module = b.calls[k].module
      · by_cases hf : a.calls[k].func = b.calls[k].func
        · cases hv : all2 (fun v w => fitsR 4 v && fitsR 4 w && sameP v w) a.calls[k].args b.calls[k].args <;> simp [hm, hf]
        · simp [hm, hf]
      · simp [hm]) 0 (Nat.zero_le _)
  simpa using hloop
def histX (a b : Out) : Bool := decide (b.deeds.length ≤ a.deeds.length) && decide (b.calls.length ≤ a.calls.length) && ((List.range' 0 b.deeds.length).all (fun k => deedEq a.deeds[k]! b.deeds[k]!) && (List.range' 0 b.calls.length).all fun k => callEq a.calls[k]! b.calls[k]!)
theorem loop25_1 (a b : Out) (ha : OutLim a) (hb : OutLim b) (hl : b.calls.length ≤ a.calls.length) (hd : b.deeds.length ≤ a.deeds.length) : fixW (L25_1 (callW pg) fixW) [.ip (acells a.av), .ip (acells b.av), .int .i64 0] = M.pure (.bool ((List.range' 0 b.deeds.length).all (fun k => deedEq a.deeds[k]! b.deeds[k]!) && (List.range' 0 b.calls.length).all fun k => callEq a.calls[k]! b.calls[k]!)) := by
  have hlb := hb.deeds
  have h0 := loop25_0 a b ha hb hl
  generalize hB : ((List.range' 0 b.calls.length).all fun k => callEq a.calls[k]! b.calls[k]!) = B at h0
  have key : ∀ r k, b.deeds.length - k = r → k ≤ b.deeds.length → fixW (L25_1 (callW pg) fixW) [.ip (acells a.av), .ip (acells b.av), .int .i64 (k : Int)] = M.pure (.bool ((List.range' k (b.deeds.length - k)).all (fun k => deedEq a.deeds[k]! b.deeds[k]!) && B)) := by
    intro r
    induction r with
    | zero =>
      intro k hr hk
      obtain rfl : k = b.deeds.length := by omega
      rw [FL25_1]
      simp only [L25_1]
      simp at h0
      simp [h0]
    | succ r ih =>
      intro k hr hk
      have h : k < b.deeds.length := by omega
      have h' : k < a.deeds.length := by omega
      have hk' : (k : Int) < (b.deeds.length : Int) := by omega
      have hn := ih (k + 1) (by omega) (by omega)
      have hle : ∀ d : Deed, loadA T 55 (.ip (acells d.av)) = some d.av := fun _ => rfl
      have hq := deed_neq a.deeds[k] b.deeds[k]
      have he : b.deeds.length - k = (b.deeds.length - (k + 1)) + 1 := by omega
      rw [FL25_1, he, List.range'_succ, List.all_cons]
      simp only [L25_1]
      generalize hC : ((List.range' (k + 1) (b.deeds.length - (k + 1))).all (fun k => deedEq a.deeds[k]! b.deeds[k]!)) = C at hn ⊢
      simp at hn
      simp (disch := omega) [h, h', hk', wrap_in, IX40, hq, hn]
      cases deedEq a.deeds[k] b.deeds[k] <;> simp
  simpa using key b.deeds.length 0 rfl (by omega)
theorem t25 (a b : Out) (ha : OutLim a) (hb : OutLim b) : callW pg 25 [a.av, b.av] = M.pure (.bool (histX a b)) := by
  rw [C25]
  unfold histX
  by_cases h1 : b.deeds.length ≤ a.deeds.length
  · have d1 : ¬ a.deeds.length < b.deeds.length := by omega
    by_cases h2 : b.calls.length ≤ a.calls.length
    · have d2 : ¬ a.calls.length < b.calls.length := by omega
      have hl := loop25_1 a b ha hb h2 h1
      simp at hl
      simp [S25, h1, h2, hl, d1, d2]
    · have d2 : (a.calls.length : Int) < (b.calls.length : Int) := by omega
      have d3 : a.calls.length < b.calls.length := by omega
      simp [S25, h1, h2, d3]
  · have d1 : a.deeds.length < b.deeds.length := by omega
    simp [S25, h1, d1]
def sameR (v w : Val) : Bool := fitsR 4 v && fitsR 4 w && sameP v w
def alikeX (a b : Out) : Bool := (a.err == b.err && a.deeds.length == b.deeds.length && a.calls.length == b.calls.length && histX a b && all2 varsEq a.state b.state) && (a.err != 0 || sameR a.value b.value)
theorem t13 (a b : Out) (ha : OutLim a) (hb : OutLim b) : callW pg 13 [a.av, b.av] = M.pure (.bool (alikeX a b)) := by
  have hh := t25 a b ha hb
  have hs := t12 a.state b.state ha.state hb.state
  have hv := t24 a.value b.value ha.value hb.value
  rw [C13]
  unfold alikeX sameR
  simp [S13, hh, hs, hv]
end Go.Proofs.Ytgbopmciiadmlaa
