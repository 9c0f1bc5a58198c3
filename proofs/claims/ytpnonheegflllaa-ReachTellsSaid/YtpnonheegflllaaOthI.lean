/- reach.index, as the evaluator knows it; the functions that are known by other means are right. No condition. -/
import Derived.Test.YtpnonheegflllaaIdxC
import Derived.Test.YtpnonheegflllaaSrtC
namespace Go.Proofs.Ytpnonheegflllaa
open Go Go.Av Go.Av.Ap Go.RowKit
set_option maxRecDepth 100000
theorem funP_inv {e : AV} {y : Str × AV} (h : funP e = some y) : ∃ s0 b1 l2 n3 l4 n5 n6 n7 s8 s9 l10 l11, e = .agg [.str s0, .bool b1, .sl l2, .int .i64 n3, .sl l4, .int .i64 n5, .int .i64 n6, .int .i64 n7, .str s8, .str s9, .sl l10, .sl l11] ∧ y = (s0, .agg [.str s0, .bool b1, .sl l2, .int .i64 n3, .sl l4, .int .i64 n5, .int .i64 n6, .int .i64 n7, .str s8, .str s9, .sl l10, .sl l11]) := by
  unfold funP at h
  split at h
  · cases h; exact ⟨_, _, _, _, _, _, _, _, _, _, _, _, rfl, rfl⟩
  · cases h
theorem modP_inv {e : AV} {m : Str × List (Str × AV)} (h : modP e = some m) : ∃ s0 l1 l2 l3 l4 b5 l6 l7 l8, e = .agg [.str s0, .sl l1, .sl l2, .sl l3, .sl l4, .bool b5, .sl l6, .sl l7, .sl l8] ∧ ∃ l, l4.mapM funP = some l ∧ m = (s0, l) := by
  unfold modP at h
  split at h
  · rename_i s _ _ _ fs _ _ _ _
    cases hl : fs.mapM funP with
    | none => rw [hl] at h; cases h
    | some l => rw [hl] at h; simp only [Option.map_some, Option.some.injEq] at h; exact ⟨_, _, _, _, _, _, _, _, _, rfl, l, hl, h.symm⟩
  · cases h
theorem mapM_cons_inv {α γ : Type} {f : α → Option γ} {x : α} {xs : List α} {l : List γ} (h : (x :: xs).mapM f = some l) : ∃ y ys, f x = some y ∧ xs.mapM f = some ys ∧ l = y :: ys := by
  rw [List.mapM_cons] at h
  cases h1 : f x with
  | none => rw [h1] at h; cases h
  | some y =>
    cases h2 : xs.mapM f with
    | none => rw [h1, h2] at h; cases h
    | some ys =>
      rw [h1, h2] at h
      simp only [Option.pure_def, Option.bind_eq_bind, Option.bind_some, Option.some.injEq] at h
      exact ⟨y, ys, rfl, rfl, h.symm⟩
theorem funs_of {S : Stab} {β : List Blk} {b sz : Nat} : (es : List AV) → (off : Nat) → (l : List (Str × AV)) → ElsAt S β es b off sz → es.mapM funP = some l →
    ∃ zs : List F12, FunsR S β l zs ∧ zs.length = es.length ∧ ∀ j, j < zs.length → S b (off + j * 12) = some (.string (zs[j]?.getD default).n) ∧ S b (off + j * 12 + 1) = some (zs[j]?.getD default).a1 ∧ S b (off + j * 12 + 2) = some (zs[j]?.getD default).a2 ∧ S b (off + j * 12 + 3) = some (zs[j]?.getD default).a3 ∧ S b (off + j * 12 + 4) = some (zs[j]?.getD default).a4 ∧ S b (off + j * 12 + 5) = some (zs[j]?.getD default).a5 ∧ S b (off + j * 12 + 6) = some (zs[j]?.getD default).a6 ∧ S b (off + j * 12 + 7) = some (zs[j]?.getD default).a7 ∧ S b (off + j * 12 + 8) = some (zs[j]?.getD default).a8 ∧ S b (off + j * 12 + 9) = some (zs[j]?.getD default).a9 ∧ S b (off + j * 12 + 10) = some (zs[j]?.getD default).a10 ∧ S b (off + j * 12 + 11) = some (zs[j]?.getD default).a11
  | [], off, l, _, h => by
    simp at h
    subst h
    exact ⟨[], rfl, rfl, fun j hj => by simp at hj⟩
  | e :: es, off, l, he, h => by
    obtain ⟨y, l', h1, h2, rfl⟩ := mapM_cons_inv h
    simp only [ElsAt] at he
    obtain ⟨⟨v, hv, hs, hc⟩, he⟩ := he
    obtain ⟨s0, b1, l2, n3, l4, n5, n6, n7, s8, s9, l10, l11, rfl, rfl⟩ := funP_inv h1
    have hv0 := hv
    simp only [VR, VRs] at hv
    obtain ⟨vs, rfl, _, _, rfl, ⟨x0, rfl, hx0⟩, _, _, rfl, rfl, _, _, rfl, ⟨p2, c2, rfl, hp2⟩, _, _, rfl, rfl, _, _, rfl, ⟨p4, c4, rfl, hp4⟩, _, _, rfl, rfl, _, _, rfl, rfl, _, _, rfl, rfl, _, _, rfl, ⟨x8, rfl, hx8⟩, _, _, rfl, ⟨x9, rfl, hx9⟩, _, _, rfl, ⟨p10, c10, rfl, hp10⟩, _, _, rfl, ⟨p11, c11, rfl, hp11⟩, rfl⟩ := hv
    have hsz : sz = 12 := by rw [← hs]; rfl
    subst hsz
    obtain ⟨zs, hR, hl, hZ⟩ := funs_of es (off + 12) l' he h2
    refine ⟨⟨x0, .bool b1, .slice p2 l2.length c2, .int .i64 n3, .slice p4 l4.length c4, .int .i64 n5, .int .i64 n6, .int .i64 n7, .string x8, .string x9, .slice p10 l10.length c10, .slice p11 l11.length c11⟩ :: zs, ⟨_, _, rfl, ⟨hx0, hv0, ⟨_, rfl⟩, ⟨_, _, _, rfl⟩, ⟨_, rfl⟩, ⟨_, _, _, rfl⟩, ⟨_, rfl⟩, ⟨_, rfl⟩, ⟨_, rfl⟩, ⟨_, rfl⟩, ⟨_, rfl⟩, ⟨_, _, _, rfl⟩, ⟨_, _, _, rfl⟩⟩, hR⟩, by simp [hl], fun j hj => ?_⟩
    cases j with
    | zero => exact ⟨by simpa using hc 0 _ rfl, by simpa using hc 1 _ rfl, by simpa using hc 2 _ rfl, by simpa using hc 3 _ rfl, by simpa using hc 4 _ rfl, by simpa using hc 5 _ rfl, by simpa using hc 6 _ rfl, by simpa using hc 7 _ rfl, by simpa using hc 8 _ rfl, by simpa using hc 9 _ rfl, by simpa using hc 10 _ rfl, by simpa using hc 11 _ rfl⟩
    | succ j =>
      have := hZ j (by simpa using hj)
      rw [show off + 12 + j * 12 = off + (j + 1) * 12 by omega] at this
      simpa using this
theorem mods_of {S : Stab} {β : List Blk} {w : World} (hw : Wf S w) {b sz : Nat} : (es : List AV) → (off : Nat) → (l : List (Str × List (Str × AV))) → ElsAt S β es b off sz → es.mapM modP = some l →
    ∃ zs : List M9, ModsR S β w l zs ∧ zs.length = es.length ∧ ∀ j, j < zs.length → S b (off + j * 9) = some (.string (zs[j]?.getD default).n) ∧ S b (off + j * 9 + 1) = some (zs[j]?.getD default).a1 ∧ S b (off + j * 9 + 2) = some (zs[j]?.getD default).a2 ∧ S b (off + j * 9 + 3) = some (zs[j]?.getD default).a3 ∧ S b (off + j * 9 + 4) = some (zs[j]?.getD default).a4 ∧ S b (off + j * 9 + 5) = some (zs[j]?.getD default).a5 ∧ S b (off + j * 9 + 6) = some (zs[j]?.getD default).a6 ∧ S b (off + j * 9 + 7) = some (zs[j]?.getD default).a7 ∧ S b (off + j * 9 + 8) = some (zs[j]?.getD default).a8
  | [], off, l, _, h => by
    simp at h
    subst h
    exact ⟨[], rfl, rfl, fun j hj => by simp at hj⟩
  | e :: es, off, l, he, h => by
    obtain ⟨y, l', h1, h2, rfl⟩ := mapM_cons_inv h
    simp only [ElsAt] at he
    obtain ⟨⟨v, hv, hs, hc⟩, he⟩ := he
    obtain ⟨s0, l1, l2, l3, l4, b5, l6, l7, l8, rfl, fl, hfl, rfl⟩ := modP_inv h1
    simp only [VR, VRs] at hv
    obtain ⟨vs, rfl, _, _, rfl, ⟨x0, rfl, hx0⟩, _, _, rfl, ⟨p1, c1, rfl, hp1⟩, _, _, rfl, ⟨p2, c2, rfl, hp2⟩, _, _, rfl, ⟨p3, c3, rfl, hp3⟩, _, _, rfl, ⟨p4, c4, rfl, hp4⟩, _, _, rfl, rfl, _, _, rfl, ⟨p6, c6, rfl, hp6⟩, _, _, rfl, ⟨p7, c7, rfl, hp7⟩, _, _, rfl, ⟨p8, c8, rfl, hp8⟩, rfl⟩ := hv
    have hsz : sz = 9 := by rw [← hs]; rfl
    subst hsz
    obtain ⟨zs, hR, hl, hZ⟩ := mods_of hw es (off + 9) l' he h2
    have hf : ∃ fz, FunsR S β fl fz ∧ Funs12 w.heap.size w.heap.size w (.slice p4 l4.length c4) fz := by
      cases hl4 : l4 with
      | nil =>
        subst hl4
        simp at hfl
        subst hfl
        exact ⟨[], rfl, .inl ⟨rfl, _, _, rfl⟩⟩
      | cons f fs =>
        rw [hl4] at hp4 hfl
        obtain ⟨q1, q2, q3⟩ := hp4
        cases p4 with
        | none => have := q2 rfl; rw [this] at q1; simp at q1
        | some q =>
          obtain ⟨g1, sz, g2⟩ := q3 q rfl
          obtain ⟨qb, qo, qp⟩ := q
          have hqp : qp = none := g1 (by simp at q1; omega)
          subst hqp
          obtain ⟨fz, r1, r2, r3⟩ := funs_of (f :: fs) qo fl g2 hfl
          refine ⟨fz, r1, .inr ⟨qb, qo, c4, by rw [r2], ?_, ?_, fun j hj => ?_⟩⟩
          · exact hw.lt (r3 0 (by rw [r2]; simp)).1
          · exact Nat.ne_of_lt (hw.lt (r3 0 (by rw [r2]; simp)).1)
          · obtain ⟨d0, d1, d2, d3, d4, d5, d6, d7, d8, d9, d10, d11⟩ := r3 j hj
            exact ⟨hw _ _ _ d0, hw _ _ _ d1, hw _ _ _ d2, hw _ _ _ d3, hw _ _ _ d4, hw _ _ _ d5, hw _ _ _ d6, hw _ _ _ d7, hw _ _ _ d8, hw _ _ _ d9, hw _ _ _ d10, hw _ _ _ d11⟩
    obtain ⟨fz, hf1, hf2⟩ := hf
    refine ⟨⟨x0, .slice p1 l1.length c1, .slice p2 l2.length c2, .slice p3 l3.length c3, .slice p4 l4.length c4, .bool b5, .slice p6 l6.length c6, .slice p7 l7.length c7, .slice p8 l8.length c8⟩ :: zs, ⟨_, _, rfl, ⟨hx0, fz, hf1, hf2, ⟨_, _, _, rfl⟩, ⟨_, _, _, rfl⟩, ⟨_, _, _, rfl⟩, ⟨_, _, _, rfl⟩, ⟨_, rfl⟩, ⟨_, _, _, rfl⟩, ⟨_, _, _, rfl⟩, ⟨_, _, _, rfl⟩⟩, hR⟩, by simp [hl], fun j hj => ?_⟩
    cases j with
    | zero => exact ⟨by simpa using hc 0 _ rfl, by simpa using hc 1 _ rfl, by simpa using hc 2 _ rfl, by simpa using hc 3 _ rfl, by simpa using hc 4 _ rfl, by simpa using hc 5 _ rfl, by simpa using hc 6 _ rfl, by simpa using hc 7 _ rfl, by simpa using hc 8 _ rfl⟩
    | succ j =>
      have := hZ j (by simpa using hj)
      rw [show off + 9 + j * 9 = off + (j + 1) * 9 by omega] at this
      simpa using this
theorem oth25 (call : FuncId → List AV → M AV) (args : List AV) (h : Hp) (S : Stab) (β : List Blk) (w : World) (vs : List Value) (hr : indexE call args h ≠ .fail) (hg : GOK β h w) (hw : Wf S w) (hh : HeapX S β w h) (hv : VRs S β args vs) :
    Calls Try.prog 25 vs.toArray w (CPost none S β h w (indexE call args h)) := by
  unfold indexE at hr ⊢
  split at hr
  · rename_i ms
    cases hm : ms.mapM modP with
    | none => rw [hm] at hr; exact absurd rfl hr
    | some l =>
      rw [hm] at hr
      simp only at hr ⊢
      by_cases hc : l.length ≤ 1000000 ∧ ∀ m ∈ l, m.2.length ≤ 1000000
      · rw [if_pos hc]
        simp only [VRs, VR] at hv
        obtain ⟨_, _, rfl, ⟨a, cap, rfl, hle, hnil, hq⟩, rfl⟩ := hv
        have hzs : ∃ zs : List M9, ModsR S β w l zs ∧ ms.length = zs.length ∧ (zs = [] ∨ ∃ b off, a = some ⟨b, off, none⟩ ∧ b < w.heap.size ∧ Cells9 w b off zs) := by
          cases hms : ms with
          | nil =>
            subst hms
            simp at hm
            subst hm
            exact ⟨[], rfl, rfl, .inl rfl⟩
          | cons e es =>
            rw [hms] at hm hle hq
            cases a with
            | none => have := hnil rfl; simp at hle; omega
            | some q =>
              obtain ⟨g1, sz, g2⟩ := hq q rfl
              obtain ⟨qb, qo, qp⟩ := q
              have hqp : qp = none := g1 (by simp at hle; omega)
              subst hqp
              obtain ⟨zs, r1, r2, r3⟩ := mods_of hw (e :: es) qo l g2 hm
              refine ⟨zs, r1, r2.symm, .inr ⟨qb, qo, rfl, ?_, fun j hj => ?_⟩⟩
              · exact hw.lt (r3 0 (by rw [r2]; simp)).1
              · obtain ⟨d0, d1, d2, d3, d4, d5, d6, d7, d8⟩ := r3 j hj
                exact ⟨hw _ _ _ d0, hw _ _ _ d1, hw _ _ _ d2, hw _ _ _ d3, hw _ _ _ d4, hw _ _ _ d5, hw _ _ _ d6, hw _ _ _ d7, hw _ _ _ d8⟩
        obtain ⟨zs, hR, hlen, hcl⟩ := hzs
        have := idx_in Fence.wide 20 trivial trivial trivial rfl (by decide) S β a ms.length cap zs l w hR hlen hc hcl
        rw [callsIn_wide] at this
        refine this.mono ?_
        rintro e w' ⟨bo, rfl, hbo, hmap, hB⟩
        exact cpost_map hw hh hB noDr hbo hmap
      · rw [if_neg hc] at hr; exact absurd rfl hr
  · exact absurd rfl hr
theorem bif_cases {α : Type} {f k : Nat} {x : α} {o : Option α} {y : α} (h : (bif Nat.beq f k then some x else o) = some y) : (f = k ∧ x = y) ∨ o = some y := by
  cases hb : Nat.beq f k with
  | true => rw [hb] at h; exact .inl ⟨Nat.eq_of_beq_eq_true hb, by simpa using h⟩
  | false => rw [hb] at h; exact .inr h
theorem good : GoodPg Try.prog pg where
  tok := tok
  funcs := funcs_ok
  other := by
    intro f E hE call hC args h S β w vs hr hg hw hh hv
    have h0 : other f = some E := hE
    unfold other at h0
    rcases bif_cases h0 with ⟨rfl, rfl⟩ | h0
    · exact ⟨oth25 call args h S β w vs hr hg hw hh hv, by kernel_rfl⟩
    rcases bif_cases h0 with ⟨rfl, rfl⟩ | h0
    · exact ⟨oth30 call args h S β w vs hr hg hw hh hv, by kernel_rfl⟩
    rcases bif_cases h0 with ⟨rfl, rfl⟩ | h0
    · exact ⟨oth37 call args h S β w vs hr hg hw hh hv, by kernel_rfl⟩
    cases h0
  nw := fun f hf => by cases hf
end Go.Proofs.Ytpnonheegflllaa
