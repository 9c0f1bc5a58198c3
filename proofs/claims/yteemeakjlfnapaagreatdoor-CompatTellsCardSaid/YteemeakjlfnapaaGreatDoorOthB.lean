/- A strings.Builder's first write and its text, as the evaluator knows them. No condition. -/
import Derived.Test.YteemeakjlfnapaaGreatDoorBldC
import Derived.Test.YteemeakjlfnapaaGreatDoorLd
namespace Go.Proofs.YteemeakjlfnapaaGreatDoor
open Go Go.Av Go.RowKit
set_option maxRecDepth 100000
theorem rowAt_mono {P : Program} {fits : TypeId → Bool} {d : Nat} {e : TypeId} {c c' off n : Nat} (hc : c ≤ c') (h : rowAt P fits d e c off n = true) : rowAt P fits d e c' off n = true := by
  cases d with
  | zero => simp [rowAt] at h
  | succ d =>
    simp only [rowAt] at h ⊢
    split at h
    · cases h
    · rename_i hs
      rw [if_neg hs]
      simp only [Bool.or_eq_true, Bool.and_eq_true, decide_eq_true_eq] at h ⊢
      rcases h with h | h
      · exact .inl ⟨⟨h.1.1, by omega⟩, h.2⟩
      · exact .inr ⟨by omega, h.2⟩
theorem liesAt_mono {P : Program} {u : TypeId} {e : TypeId} {c c' off : Nat} (hc : c ≤ c') : ∀ (d : Nat) (u : TypeId) (n : Nat), liesAt P d e c off u n = true → liesAt P d e c' off u n = true
  | 0, u, n, h => by simp [liesAt] at h
  | d + 1, u, n, h => by
    simp only [liesAt, Bool.or_eq_true] at h ⊢
    rcases h with h | h
    · exact .inl (rowAt_mono hc h)
    · refine .inr ?_
      split at h
      · exact liesAt_mono (u := u) hc d _ _ h
      · cases h
theorem liesB : liesAt Tryz.prog Tryz.prog.depth 104 1 0 104 1 = true := by kernel_rfl
theorem liesW : liesAt Tryz.prog Tryz.prog.depth 149 1 0 104 1 = true := by kernel_rfl
theorem cellsB : Tryz.prog.cellsOf 104 = 2 := by kernel_rfl
theorem cellsW : Tryz.prog.cellsOf 149 = 3 := by kernel_rfl
theorem setCell_row {w : World} {b : Nat} {z : Array Value} {t : TypeId} (hb : w.heap[b]? = some (.cells z t (0, 0))) (v : Value) : w.setCell ⟨b, 0, none⟩ v = w.setRow b (z.setIfInBounds 0 v) := by
  unfold World.setCell World.setRow
  congr 1
  apply Array.ext (by simp)
  intro i h1 h2
  simp only [Array.getElem_modify]
  split
  · rename_i hi
    subst hi
    obtain ⟨hlt, hk⟩ := Array.getElem?_eq_some_iff.1 hb
    rw [hk]
    rfl
  · rfl
theorem oth152 (call : FuncId → List AV → M AV) (args : List AV) (h : Hp) (S : Stab) (β : List Blk) (w : World) (vs : List Value) (hr : copyCheckE [(104, 2), (149, 3)] call args h ≠ .fail) (hg : GOK β h w) (hw : Wf S w) (hh : HeapX S β w h) (hv : VRs S β args vs) :
    Calls Tryz.prog 152 vs.toArray w (CPost none S β h w (copyCheckE [(104, 2), (149, 3)] call args h)) := by
  unfold copyCheckE at hr ⊢
  cases hpo : hpOf args with
  | none => rw [hpo] at hr; exact absurd rfl hr
  | some l =>
    rw [hpo] at hr
    have := hpOf_inv hpo
    subst this
    simp only [VRs, VR] at hv
    obtain ⟨_, _, rfl, ⟨bk, hβ, hb0, rfl⟩, rfl⟩ := hv
    obtain ⟨b, nb⟩ := bk
    dsimp only at hr ⊢
    have hh0 := hh
    obtain ⟨hlen, ω, hhr⟩ := hh
    cases hl : h[l]? with
    | none => rw [hl] at hr; exact absurd rfl hr
    | some cs =>
      rw [hl] at hr
      dsimp only at hr ⊢
      cases hc : ccA [(104, 2), (149, 3)] l cs with
      | none => rw [hc] at hr; exact absurd rfl hr
      | some cs' =>
        dsimp only
        rcases ccA_inv hc with ⟨t, x, r, rfl, rfl, n, hm, hn⟩ | ⟨r, rfl, rfl⟩
        · obtain ⟨z, j1, j2, j3, j4, j5⟩ := hhr.cells hl (by simp) hβ hb0
          obtain ⟨y, hy⟩ := hhr.tag hl ⟨_, List.mem_cons_self, rfl⟩ hβ
          cases j2.inj ⟨t, hy⟩
          have hsz : r.length + 2 ≤ z.size := by
            have := j4.length
            simp at this
            omega
          have hz0 : z[0]? = some (.pointer none) := by
            have := j4.get (i := 0) (c := .nilb t) rfl
            obtain ⟨v, h1, h2⟩ := this
            simp only [VR] at h2
            subst h2
            rw [List.getElem?_take] at h1
            split at h1
            · simpa using h1
            · cases h1
          have hlies : liesAt Tryz.prog Tryz.prog.depth t (z.size / Tryz.prog.cellsOf t) 0 104 1 = true := by
            simp only [List.mem_cons, Prod.mk.injEq, List.not_mem_nil, or_false] at hm
            rcases hm with ⟨rfl, rfl⟩ | ⟨rfl, rfl⟩
            · rw [cellsB]; exact liesAt_mono (u := 104) (by omega) _ _ _ liesB
            · rw [cellsW]; exact liesAt_mono (u := 104) (by omega) _ _ _ liesW
          refine (cc_fresh b t z.size w (by rw [cell_of_row _ _ _ _ _ _ hy]; exact hz0) (by simp [World.shape?, hy]) (by omega) (by simp [World.frozen?, hy]) hlies).mono ?_
          rintro e w' ⟨rfl, rfl⟩
          rw [setCell_row hy]
          refine cpost_turn hg hw hh0 hl (by simp) hβ j2 (by simp) ?_ (fun t' ht => ?_)
          · have hzl : z.toList = .pointer none :: z.toList.drop 1 := by
              have := List.drop_eq_getElem_cons (l := z.toList) (i := 0) (by simp; omega)
              simp only [List.drop_zero] at this
              rw [this]
              congr 1
              have h3 : z.toList[0]? = some (.pointer none) := by simpa using hz0
              rw [List.getElem?_eq_getElem (by simp; omega)] at h3
              simpa using h3
            have hz2 : (z.setIfInBounds 0 (.pointer (some ⟨b, 0, none⟩))).toList = .pointer (some ⟨b, 0, none⟩) :: z.toList.drop 1 := by
              simp only [Array.toList_setIfInBounds]
              rw [hzl]
              rfl
            rw [hz2]
            rw [hzl] at j4
            simp only [List.length_cons, List.take_succ_cons, VRs, VR] at j4 ⊢
            obtain ⟨_, _, h1, _, h2⟩ := j4
            obtain ⟨rfl, rfl⟩ := List.cons.inj h1
            exact ⟨_, _, rfl, ⟨(b, nb), hβ, hb0, rfl⟩, h2⟩
          · rcases ht.cons with ht | ht
            · cases ht
            · exact ht.mono fun a ha => List.mem_cons_of_mem _ ha
        · obtain ⟨z, j1, j2, j3, j4, j5⟩ := hhr.cells hl (by simp) hβ hb0
          have hz0 : z[0]? = some (.pointer (some ⟨b, 0, none⟩)) := by
            have := j4.get (i := 0) (c := .hp l 0) rfl
            obtain ⟨v, h1, h2⟩ := this
            simp only [VR] at h2
            obtain ⟨bk, hbk, _, rfl⟩ := h2
            rw [hβ] at hbk
            cases hbk
            rw [List.getElem?_take] at h1
            split at h1
            · simpa using h1
            · cases h1
          have hset : h.set l (.hp l 0 :: r) = h := by
            obtain ⟨hlt, hk⟩ := List.getElem?_eq_some_iff.1 hl
            rw [← hk]
            exact List.set_getElem_self hlt
          rw [hset]
          refine (cc_used b w (by rw [j2.cell]; exact hz0)).mono ?_
          rintro e w' ⟨rfl, rfl⟩
          exact cpost_below hw hh0 (Below.refl _ _) noDr (by simp only [VR]; exact ⟨[], rfl, by simp [VRs]⟩)
theorem bytesA_ok {S : Stab} {β : List Blk} {e : Nat} : {cs : List AV} → {s : List UInt8} → {vs : List Value} → bytesA e cs = some s → VRs S β cs vs → s.length = cs.length ∧ (∀ (j : Nat) (x : UInt8), s[j]? = some x → vs[j]? = some (Value.int .u8 x.toNat)) ∧ ∀ x ∈ cs, tagOf x = some e
  | [], s, vs, h, _ => by
    simp only [bytesA, Option.some.injEq] at h
    subst h
    exact ⟨rfl, fun j x hx => by simp at hx, fun x hx => by cases hx⟩
  | c :: cs, s, vs, h, hv => by
    simp only [bytesA] at h
    cases h1 : byteA e c with
    | none => rw [h1] at h; cases h
    | some b =>
      cases h2 : bytesA e cs with
      | none => rw [h1, h2] at h; cases h
      | some l =>
        rw [h1, h2] at h
        simp only [Option.some.injEq] at h
        subst h
        simp only [VRs] at hv
        obtain ⟨y, ys, rfl, hy, hv⟩ := hv
        obtain ⟨k1, k2, k3⟩ := bytesA_ok h2 hv
        unfold byteA at h1
        split at h1
        · rename_i t n
          cases hc : (Nat.beq t e && decide (0 ≤ n) && decide (n < 256)) with
          | false => rw [hc] at h1; cases h1
          | true =>
            rw [hc] at h1
            simp only [cond_true, Option.some.injEq] at h1
            simp only [Bool.and_eq_true, decide_eq_true_eq] at hc
            obtain ⟨⟨c1, c2⟩, c3⟩ := hc
            have c1 := Nat.eq_of_beq_eq_true c1
            subst c1 h1
            simp only [VR] at hy
            subst hy
            refine ⟨by simp [k1], fun j x hx => ?_, fun x hx => ?_⟩
            · cases j with
              | zero =>
                simp only [List.getElem?_cons_zero, Option.some.injEq] at hx ⊢
                subst hx
                congr 1
                have : (UInt8.ofNat n.toNat).toNat = n.toNat % 256 := rfl
                rw [this, Nat.mod_eq_of_lt (by omega)]
                omega
              | succ j => exact k2 j x (by simpa using hx)
            · rcases List.mem_cons.1 hx with rfl | hx
              · rfl
              · exact k3 x hx
        · cases h1
theorem freeze_gro {w : World} {g n : Nat} : Gro w (w.drew.freeze ⟨g, 0, none⟩ n) ∧ (w.drew.freeze ⟨g, 0, none⟩ n).heap.size = w.heap.size ∧ ∀ k, k ≠ g → (w.drew.freeze ⟨g, 0, none⟩ n).heap[k]? = w.heap[k]? := by
  have h1 : Gro w.drew (w.drew.freeze ⟨g, 0, none⟩ n) ∧ (w.drew.freeze ⟨g, 0, none⟩ n).heap.size = w.drew.heap.size ∧ ∀ k, k ≠ g → (w.drew.freeze ⟨g, 0, none⟩ n).heap[k]? = w.drew.heap[k]? := by
    generalize w.drew = v
    unfold World.freeze
    split
    · exact ⟨Gro.refl _, rfl, fun _ _ => rfl⟩
    · refine ⟨⟨by simp, rfl, rfl, rfl, fun _ => Nat.le_refl _⟩, by simp, fun k hk => ?_⟩
      simp only [Array.getElem?_modify]
      rw [if_neg (by omega)]
  exact ⟨(Gro.drew w).trans h1.1, h1.2.1, h1.2.2⟩
theorem oth87 (call : FuncId → List AV → M AV) (args : List AV) (h : Hp) (S : Stab) (β : List Blk) (w : World) (vs : List Value) (hr : builderStringE 5 call args h ≠ .fail) (hg : GOK β h w) (hw : Wf S w) (hh : HeapX S β w h) (hv : VRs S β args vs) :
    Calls Tryz.prog 87 vs.toArray w (CPost none S β h w (builderStringE 5 call args h)) := by
  unfold builderStringE at hr ⊢
  cases hpo : hpOf args with
  | none => rw [hpo] at hr; exact absurd rfl hr
  | some l =>
    rw [hpo] at hr
    have := hpOf_inv hpo
    subst this
    simp only [VRs, VR] at hv
    obtain ⟨_, _, rfl, ⟨bk, hβ, hb0, rfl⟩, rfl⟩ := hv
    obtain ⟨b, nb⟩ := bk
    dsimp only at hr ⊢
    have hh0 := hh
    obtain ⟨hlen, ω, hhr⟩ := hh
    have one : ∀ {cs : List AV} {x y : AV} {r : List AV}, h[l]? = some cs → cs = x :: y :: r → ∃ v, w.cell? ⟨b, 1, none⟩ = some v ∧ VR S β y v := by
      rintro cs x y r hl rfl
      obtain ⟨z, j1, j2, j3, j4, j5⟩ := hhr.cells hl (by simp) hβ hb0
      obtain ⟨v, h1, h2⟩ := j4.get (i := 1) (c := y) rfl
      rw [List.getElem?_take] at h1
      split at h1
      · exact ⟨v, by rw [j2.cell]; simpa using h1, h2⟩
      · cases h1
    cases hl : h[l]? with
    | none => rw [hl] at hr; exact absurd rfl hr
    | some cs0 =>
      rw [hl] at hr
      dsimp only at hr ⊢
      cases hst : stA cs0 with
      | none => rw [hst] at hr; exact absurd rfl hr
      | some q =>
        rw [hst] at hr
        cases q with
        | none =>
          dsimp only
          obtain ⟨x, r, hx⟩ := stA_none hst
          obtain ⟨v, hc1, hv1⟩ := one hl hx
          simp only [VR] at hv1
          subst hv1
          refine (st_nil b w hc1).mono ?_
          rintro e w' ⟨rfl, rfl⟩
          exact cpost_below (w' := w.drew) (r := .str []) (v := .string ⟨#[]⟩) hw hh0 ⟨rfl, rfl, rfl, Nat.le_refl _, fun _ _ => rfl⟩ noDr (by simp only [VR]; exact ⟨_, rfl, rfl⟩)
        | some q =>
          obtain ⟨lb, len⟩ := q
          dsimp only at hr ⊢
          obtain ⟨x, r, hx, k1, k3⟩ := stA_some hst
          obtain ⟨v, hc1, hv1⟩ := one hl hx
          cases hcs : h[lb]? with
          | none => rw [hcs] at hr; exact absurd rfl hr
          | some cs =>
            rw [hcs] at hr
            dsimp only at hr ⊢
            cases hle : Nat.ble len cs.length with
            | false => rw [hle] at hr; exact absurd rfl hr
            | true =>
              rw [hle] at hr
              simp only [cond_true] at hr ⊢
              have k2 := Nat.le_of_ble_eq_true hle
              cases hb : bytesA 5 (cs.take len) with
              | none => rw [hb] at hr; exact absurd rfl hr
              | some s =>
                dsimp only
                obtain ⟨b2, cap, hβ2, hb20, rfl, hlc, hcn⟩ := hv1.hs_pos k1
                obtain ⟨g, ng⟩ := b2
                obtain ⟨z, j1, j2, j3, j4, j5⟩ := hhr.cells hcs (by rintro rfl; simp at k2; omega) hβ2 hb20
                have j6 := j4.take len
                rw [List.take_take, Nat.min_eq_left k2] at j6
                obtain ⟨s1, s2, s3⟩ := bytesA_ok hb j6
                have hsl : s.length = len := by rw [s1]; simp; omega
                have hin : InTag 5 cs := by
                  cases cs with
                  | nil => simp at k2; omega
                  | cons c cs =>
                    refine ⟨c, List.mem_cons_self, s3 c ?_⟩
                    obtain ⟨m, rfl⟩ : ∃ m, len = m + 1 := ⟨len - 1, by omega⟩
                    simp
                obtain ⟨y, hy⟩ := hhr.tag hcs hin hβ2
                cases j2.inj ⟨_, hy⟩
                have hzl : cs.length ≤ z.size := by have := j4.length; simp at this; omega
                have hcell : ∀ (j : Nat) (x : UInt8), s[j]? = some x → z[j]? = some (Value.int .u8 x.toNat) := fun j x hx => by
                  have := s2 j x hx
                  rw [List.getElem?_take] at this
                  split at this
                  · simpa using this
                  · cases this
                subst hsl
                refine (st_row b g cap z s w (by rintro rfl; simp at k1) hlc hc1 hy k3 (by omega) hcell).mono ?_
                rintro e w' ⟨rfl, rfl⟩
                obtain ⟨f1, f2, f3⟩ := freeze_gro (w := w) (g := g) (n := s.length)
                exact cpost_dead hg hw hh0 hcs (by rintro rfl; rw [List.length_nil] at k2; omega) hβ2 f1 f2 f3 (by simp only [VR]; exact ⟨_, rfl, rfl⟩)
end Go.Proofs.YteemeakjlfnapaaGreatDoor
