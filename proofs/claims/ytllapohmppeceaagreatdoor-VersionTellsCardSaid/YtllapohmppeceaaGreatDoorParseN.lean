/- The texts of versions, in the second program. No condition. -/
import Derived.Test.YtllapohmppeceaaGreatDoorT1
import Derived.Test.YtllapohmppeceaaGreatDoorParse
namespace Go.Proofs.YtllapohmppeceaaGreatDoor.N
open Go Go.Av Go.Av.Ap
theorem t9 (v : Ver) : callW pg 9 [v.av] = M.pure (.bool (rightV v)) := by
  rw [C9]
  simp [S9, mins3, rightV]
theorem t15 (v w : Ver) : callW pg 15 [v.av, w.av] = M.pure (.int .i64 (bumpV v w)) := by
  rw [C15]
  simp [S15, t9, t11, bumpV]
theorem t30 (n : Int) (h0 : -9223372036854775808 ≤ n) (h1 : n ≤ 9223372036854775807) : callW pg 30 [.int .i64 n] = M.pure (.str (itoaL n)) := by
  rw [callW_other hOther (E := itoaE) rfl]
  simp only [itoaE, decide_eq_true h0, decide_eq_true h1, Bool.and_self, cond_true]
  rfl
theorem t28 (s : Str) (h : s.length < 4294967281) : callW pg 28 [.str s, .str [46]] = M.pure (strs (splitC 46 s)) := by
  rw [callW_other hOther (E := splitE) rfl]
  simp only [splitE, decide_eq_true h, cond_true]
  rfl
theorem t29 (s : Str) (h : s.length ≤ 281474976710656) : callW pg 29 [.str s] = M.pure (atoiR 79 s) := by
  rw [callW_other hOther (E := atoiE 79) rfl]
  simp only [atoiE, decide_eq_true h, cond_true]
  rfl
theorem t13 (v : Ver) : callW pg 13 [v.av] = M.pure (.str (printV v)) := by
  rw [C13]
  cases hr : rightV v with
  | false => simp [S13, t9, hr, printV]
  | true =>
    obtain ⟨h1, h2, h3⟩ := rightV_bd hr
    have l1 := itoaL_len v.a
    have l2 := itoaL_len v.b
    have l3 := itoaL_len v.c
    have e1 := t30 v.a (by omega) (by omega)
    have e2 := t30 v.b (by omega) (by omega)
    have e3 := t30 v.c (by omega) (by omega)
    simp (disch := (simp only [List.length_append, List.length_cons, List.length_nil]; omega)) [S13, t9, hr, printV, e1, e2, e3, catA, dot]
noncomputable abbrev lp5 (ps : List Str) (k : Int) : M AV := fixW (L5_0 (callW pg) fixW) [.hp 0 0, strs ps, .int .i64 3, .int .i64 k, .int .i64 0, .int .i64 0, .int .i64 0]
theorem step5 (ps : List Str) (h3 : ps.length = 3) (hs : ∀ p ∈ ps, p.length ≤ 281474976710656) (k : Nat) (hk : k < 3) (cs : List AV) (hc : cs.length = 3) :
    lp5 ps k [cs] = match partV (ps[k]'(by omega)) with
      | some n => lp5 ps ((k + 1 : Nat) : Int) [setCells cs k [.int .i64 n]]
      | none => .ok (.tup [zeroV.av, .bool false]) [cs] := by
  unfold lp5
  rw [FL5_0]
  simp only [L5_0]
  have h1 : (k : Int) < 3 := by omega
  have hp := hs ps[k] (List.getElem_mem _)
  have hw : IntKind.i64.wrap ((k : Int) + 1) = ((k + 1 : Nat) : Int) := wrap_add1 (by omega)
  have hix : indexAddrA T 43 (strs ps) (.int .i64 (k : Int)) = some (.ip [.str ps[k]]) := by
    have := IX43 (l := ps) (n := (k : Int)) (by omega) (by omega)
    rw [this]
    simp [show k < ps.length by omega]
  cases ha : Lib.atoiAll ps[k] with
  | ok n =>
    obtain ⟨b0, b1⟩ := Lib.atoiAll_bounds ha
    by_cases he : itoaL n = ps[k]
    · simp [h1, hix, t29 _ hp, atoiR, ha, neqIfc_nil, t30 n b0 b1, he, partV, indexA45 k hk, hw]
      simp [bnd_app, storeH3 k hk n cs hc]
    · simp [h1, hix, t29 _ hp, atoiR, ha, neqIfc_nil, t30 n b0 b1, he, partV, build23, pure_app]
  | range => simp [h1, hix, t29 _ hp, atoiR, ha, neqIfc, partV, build23, pure_app]
  | _ => simp [h1, hix, t29 _ hp, atoiR, ha, neqIfc, partV, build23, pure_app]
theorem end5 (ps : List Str) (a b c : Int) : lp5 ps 3 [[.int .i64 a, .int .i64 b, .int .i64 c]] = .ok (.tup [(if rightV ⟨a, b, c⟩ = true then (Ver.mk a b c) else zeroV).av, .bool (rightV ⟨a, b, c⟩)]) [[.int .i64 a, .int .i64 b, .int .i64 c]] := by
  unfold lp5
  rw [FL5_0]
  simp only [L5_0]
  have i0 := indexA45 0 (by decide)
  have i1 := indexA45 1 (by decide)
  have i2 := indexA45 2 (by decide)
  simp only [Int.natCast_zero, show ((1 : Nat) : Int) = 1 from rfl, show ((2 : Nat) : Int) = 2 from rfl] at i0 i1 i2
  have l := loadH3 (.int .i64 a) (.int .i64 b) (.int .i64 c)
  simp [i0, i1, i2]
  rw [bnd_at l.1, bnd_at l.2.1, bnd_at l.2.2]
  have hf : AV.agg [AV.int IntKind.i64 a, AV.int IntKind.i64 b, AV.int IntKind.i64 c] = (Ver.mk a b c).av := rfl
  cases h : rightV ⟨a, b, c⟩ <;> simp [build23v, build23, h, pure_app] <;> rw [hf, t9] <;> simp [h, pure_app]
  rfl
theorem t5 (s : Str) (hs : s.length ≤ 4294967280) : callW pg 5 [.str s] = M.pure (.tup [(parseV s).1.av, .bool (parseV s).2]) := by
  rw [C5]
  have hp := splitC_len 46 s
  have key : ∀ h, (S5 (callW pg) fixW (.str s)) h = S5 (callW pg) fixW (.str s) h := fun _ => rfl
  funext h
  have main : ∃ h', S5 (callW pg) fixW (.str s) [] = .ok (.tup [(parseV s).1.av, .bool (parseV s).2]) h' := by
    unfold S5 parseV
    rw [t28 s (by omega)]
    simp only [bnd_pure, LENE43, bnd_some]
    by_cases h3 : (splitC 46 s).length = 3
    · have hn : binA T .neq 3 (.int .i64 ((splitC 46 s).length : Int)) (.int .i64 3) = some (.bool false) := by rw [h3]; rfl
      rw [hn]
      match hsp : splitC 46 s, h3 with
      | [p, q, r], _ =>
        have hm : ∀ x ∈ [p, q, r], x.length ≤ 281474976710656 := fun x hx => by have := hp x (by rw [hsp]; exact hx); omega
        have s0 := step5 [p, q, r] rfl hm 0 (by decide)
        have s1 := step5 [p, q, r] rfl hm 1 (by decide)
        have s2 := step5 [p, q, r] rfl hm 2 (by decide)
        have e0 := s0 [.int .i64 0, .int .i64 0, .int .i64 0] rfl
        simp only [List.getElem_cons_zero] at e0
        have goal : ∃ h', lp5 [p, q, r] ((0 : Nat) : Int) [[.int .i64 0, .int .i64 0, .int .i64 0]] = .ok (.tup [(match partV p, partV q, partV r with
            | some a, some b, some c => if rightV ⟨a, b, c⟩ = true then ((⟨a, b, c⟩ : Ver), true) else (zeroV, false)
            | _, _, _ => (zeroV, false)).1.av, .bool (match partV p, partV q, partV r with
            | some a, some b, some c => if rightV ⟨a, b, c⟩ = true then ((⟨a, b, c⟩ : Ver), true) else (zeroV, false)
            | _, _, _ => (zeroV, false)).2]) h' := by
          rw [e0]
          cases hp0 : partV p with
          | none => exact ⟨_, rfl⟩
          | some a =>
            simp only
            have e1 := s1 (setCells [.int .i64 0, .int .i64 0, .int .i64 0] 0 [.int .i64 a]) rfl
            simp only [List.getElem_cons_zero, List.getElem_cons_succ] at e1
            rw [show ((0 + 1 : Nat) : Int) = ((1 : Nat) : Int) from rfl, e1]
            cases hp1 : partV q with
            | none => exact ⟨_, rfl⟩
            | some b =>
              simp only
              have e2 := s2 (setCells (setCells [.int .i64 0, .int .i64 0, .int .i64 0] 0 [.int .i64 a]) 1 [.int .i64 b]) rfl
              simp only [List.getElem_cons_zero, List.getElem_cons_succ] at e2
              rw [show ((1 + 1 : Nat) : Int) = ((2 : Nat) : Int) from rfl, e2]
              cases hp2 : partV r with
              | none => exact ⟨_, rfl⟩
              | some c =>
                simp only
                have e3 := end5 [p, q, r] a b c
                refine ⟨[[.int .i64 a, .int .i64 b, .int .i64 c]], Eq.trans e3 ?_⟩
                cases rightV ⟨a, b, c⟩ <;> rfl
        exact goal
    · have hn : binA T .neq 3 (.int .i64 ((splitC 46 s).length : Int)) (.int .i64 3) = some (.bool true) := by
        rw [bin_neq]
        simp; omega
      rw [hn]
      refine ⟨[], ?_⟩
      match hsp : splitC 46 s with
      | [] => rfl
      | [_] => rfl
      | [_, _] => rfl
      | [_, _, _] => rw [hsp] at h3; exact absurd rfl h3
      | _ :: _ :: _ :: _ :: _ => rfl
  obtain ⟨h', hm⟩ := main
  show isoP (S5 (callW pg) fixW (.str s)) h = _
  unfold isoP
  rw [hm]
  rfl
end Go.Proofs.YtllapohmppeceaaGreatDoor.N
