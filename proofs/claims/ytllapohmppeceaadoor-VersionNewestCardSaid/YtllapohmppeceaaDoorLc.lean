/- The abstract evaluator of the model, part 3: its soundness holds for every program whose table of types is the evaluator's. No further condition. -/
import Derived.Test.YtllapohmppeceaaDoorLb

/- Appends by value in an abstract frame. No condition. -/
namespace Go.Av
variable [Dr]

section
variable {c : Entry} {N : Nat} {U : Nat → Prop} {e : Env} {h : Hp} {a : Act} {w : World} {S : Stab} {β : List Blk} {γ : Nat → Value} {lam : Nat → Option Nat} {ω : Nat → Owner}

/-- A group is given up for a new one, whose value is the result. -/
theorem FR.regrp (H : FR c N U e h a w S β γ lam ω) {d : Option Tmp} {r : AV} {v : Value} {gid : Nat} {z : Option Nat} {g0 : Option Nat} {w' : World} {S' : Stab} {ω' : Nat → Owner} (hd : ∀ t, d = some t → t < N)
    (hU : ∀ g, gid ≤ g → g < gid + 1000 → ¬ U g) (hwf : Wf S' w') (hg : Gro w w') (hle : S.le S')
    (hk : ∀ k, k < w.heap.size → (∀ g, g0 = some g → ω k ≠ .grp g) → w'.heap[k]? = w.heap[k]? ∧ ∀ o, S' k o = S k o)
    (hω : ∀ k, ω k ≠ .no → (∀ g, g0 = some g → ω k ≠ .grp g) → ω' k = ω k) (hmine : ∀ b, ω' b ≠ .no → MineAt c ω' b ∧ b < w'.heap.size)
    (hv : VR S' β r v) (hf : FreeR S' w' ω' gid z v) :
    FR c N (fun g => U g ∨ (gid ≤ g ∧ g < gid + 1000)) (e.upd d { Upd.own r gid z with drop := g0 }) h (a.put d v) w' S' β (fun g => if g = gid then v else γ g) lam ω' := by
  have hget : ∀ t, (e.upd d { Upd.own r gid z with drop := g0 }).get t = if d = some t then ⟨.val r, some gid⟩ else e.get t := fun t => by rw [get_upd]; rfl
  have hal : (e.upd d { Upd.own r gid z with drop := g0 }).al = (gid, z) :: dropO e.al g0 := rfl
  have hlb : (e.upd d { Upd.own r gid z with drop := g0 }).lb = e.lb := rfl
  have hdl : ∀ B i : Nat, 1000 ≤ B → d ≠ some (B + i) := fun B i hB hh => by have h1 : B + i < N := hd _ hh; have h2 := H.tsz.2; omega
  have hdrop : ∀ g y, aliveG (dropO e.al g0) g = some y → aliveG e.al g = some y ∧ g0 ≠ some g := by
    intro g y hg
    cases g0 with
    | none => exact ⟨hg, by simp⟩
    | some k =>
      simp only [dropO, aliveG_drop] at hg
      split at hg
      · simp at hg
      · rename_i hkg; exact ⟨hg, by simpa using hkg⟩
  have hne : ∀ t g, (e.get t).g = some g → g ≠ gid := fun t g hg hh => hU g (by omega) (by omega) (H.used.1 t g hg)
  have hna : ∀ g y, aliveG e.al g = some y → g ≠ gid := fun g y hg hh => hU g (by omega) (by omega) (H.used.2 g y hg)
  have halv : ∀ g y, g ≠ gid → aliveG ((gid, z) :: dropO e.al g0) g = some y → aliveG e.al g = some y ∧ g0 ≠ some g := fun g y hg hy => by
    rw [aliveG_cons, if_neg (fun h => hg h.symm)] at hy
    exact hdrop g y hy
  have hrow : ∀ {b x}, Row w b x → (∀ g, g0 = some g → ω b ≠ .grp g) → Row w' b x := fun hr hb => hr.of_eq (hk _ hr.lt hb).1
  have hsz := hg.size
  refine ⟨hwf, H.gro.trans hg, fun b hb hE => ?_, Stab.le_trans H.le hle, H.ext, H.hlen, ?_, by rw [tmps_put_size]; exact H.tsz, fun t ht => ?_, fun t g y ht hgg hz => ?_, fun B n hB => ?_, fun g y hg => ?_, hmine, ⟨fun t g hgg => ?_, fun g y hg => ?_⟩⟩
  · have hnb : ∀ g, g0 = some g → ω b ≠ .grp g := fun g _ hbg => by
      have := (H.mine b (by rw [hbg]; simp)).1.low
      rcases this with h | h
      · exact hE h
      · omega
    have h1 := hk b (Nat.lt_of_lt_of_le hb H.size) hnb
    have h2 := H.keep b hb hE
    exact ⟨h1.1.trans h2.1, fun o => (h1.2 o).trans (h2.2 o)⟩
  · intro l cs hl hcs
    obtain ⟨b, x, h1, h2, h3, h4, h5⟩ := H.heap l cs hl hcs
    have hnb : ∀ g, g0 = some g → ω b ≠ .grp g := fun g _ => by rw [h3]; simp
    exact ⟨b, x, h1, hrow h2 hnb, by rw [hω b (by rw [h3]; simp) hnb]; exact h3, h4.mono hle (Ext.refl β), fun o => by rw [(hk b h2.lt hnb).2]; exact h5 o⟩
  · rw [hget, tmps_put a d v hd H.tsz.1]
    split
    · exact hv
    · have := H.slots t ht
      cases hv : (e.get t).v with
      | val av => rw [hv] at this; exact VR.mono hle (Ext.refl β) _ _ this
      | loc B off => rw [hv] at this; exact this
  · rw [hget] at hgg
    rw [hal] at hz
    rw [tmps_put a d v hd H.tsz.1]
    split at hgg
    · rename_i hdt
      rw [if_pos hdt]
      simp only [Option.some.injEq] at hgg
      simp [← hgg]
    · rename_i hdt
      have hg := hne t g hgg
      rw [if_neg hdt, if_neg hg]
      exact H.grps t g y ht hgg (halv g y hg hz).1
  · rw [hlb] at hB
    obtain ⟨h1, h2, h3, b, x, h4, h5, h6, h7, h8⟩ := H.lblk B n hB
    have hnb : ∀ g, g0 = some g → ω b ≠ .grp g := fun g _ => by rw [h6]; simp
    refine ⟨h1, h2, h3, b, x, h4, hrow h5 hnb, by rw [hω b (by rw [h6]; simp) hnb]; exact h6, fun o => by rw [(hk b h5.lt hnb).2]; exact h7 o, fun i hi => ?_⟩
    rw [hget, if_neg (hdl B i h2)]
    obtain ⟨u, a', g1, g2, g3, g4⟩ := h8 i hi
    refine ⟨u, a', g1, g2, VR.mono hle (Ext.refl β) _ _ g3, fun g y hg hy => ?_⟩
    have hgn := hne _ g hg
    rw [if_neg hgn]
    rw [hal] at hy
    exact g4 g y hg (halv g y hgn hy).1
  · rw [hal] at hg
    by_cases hgg : g = gid
    · subst hgg
      rw [aliveG_cons, if_pos rfl] at hg
      simp only [Option.some.injEq] at hg; subst hg
      simpa using hf
    · simp only [if_neg hgg]
      obtain ⟨h1, h2⟩ := halv g y hgg hg
      obtain ⟨a', len, cap, k1, k2, k3, k4⟩ := H.free g y h1
      refine ⟨a', len, cap, k1, k2, k3, k4.imp id ?_⟩
      rintro ⟨sz, b, off, x, j1, j2, j3, j4, j5, j6⟩
      have hnb : ∀ g', g0 = some g' → ω b ≠ .grp g' := fun g' hg' => by
        rw [j5]
        simp only [ne_eq, Owner.grp.injEq]
        rintro rfl
        exact h2 hg'
      exact ⟨sz, b, off, x, j1, j2, hrow j3 hnb, j4, by rw [hω b (by rw [j5]; simp) hnb]; exact j5, fun o ho => by rw [(hk b j3.lt hnb).2]; exact j6 o ho⟩
  · rw [hget] at hgg
    split at hgg
    · simp only [Option.some.injEq] at hgg; exact .inr (by omega)
    · exact .inl (H.used.1 t g hgg)
  · rw [hal] at hg
    by_cases hgg : g = gid
    · exact .inr (by omega)
    · exact .inl (H.used.2 g y (halv g y hgg hg).1)

omit [Dr] in
/-- The elements of a value by value have the size that was asked. -/
theorem els_size {S : Stab} {β : List Blk} {es : List AV} {b off sz sz' : Nat} (h : ElsAt S β es b off sz') (hok : okSz sz es = true) (hne : es ≠ []) : sz' = sz := by
  cases es with
  | nil => exact absurd rfl hne
  | cons x es =>
    simp only [ElsAt] at h
    simp only [okSz, List.all_cons, Bool.and_eq_true] at hok
    obtain ⟨⟨v, hv, hs, _⟩, _⟩ := h
    have := (okEl_ok hok.1 hv).1
    omega

open Classical in
theorem FR.app (H : FR c N U e h a w S β γ lam ω) {d : Option Tmp} {as bs : List AV} {vx v : Value} {w' : World} {gid sz : Nat} {g0 : Option Nat} {z : Option Nat} (hd : ∀ t, d = some t → t < N)
    (hU : ∀ g, gid ≤ g → g < gid + 1000 → ¬ U g) (hx : VR S β (.sl as) vx) (hoa : okSz sz as = true)
    (hfree : (g0 = none ∧ vx = .slice none 0 0) ∨ ∃ g, g0 = some g ∧ FreeR S w ω g z vx) (hz : z = none ∨ z = some sz)
    (happ : Appended S β w sz as bs vx v w') :
    ∃ S' ω', FR c N (fun g => U g ∨ (gid ≤ g ∧ g < gid + 1000)) (e.upd d { Upd.own (.sl (as ++ bs)) gid (some sz) with drop := g0 }) h (a.put d v) w' S' β (fun g => if g = gid then v else γ g) lam ω' := by
  cases happ with
  | same hb =>
    subst hb
    refine ⟨S, fun k => if ∃ g, g0 = some g ∧ ω k = .grp g then .grp gid else ω k, H.regrp hd hU H.wf (Gro.refl _) (Stab.le_refl S) (fun k _ _ => ⟨rfl, fun _ => rfl⟩) ?_ ?_ (by simpa using hx) ?_⟩
    · intro k _ hk
      rw [if_neg]
      rintro ⟨g, h1, h2⟩
      exact hk g h1 h2
    · intro b hb
      (try simp only at hb)
      split at hb
      · rename_i hg
        obtain ⟨g, _, hg⟩ := hg
        exact ⟨.inr ((H.mine b (by rw [hg]; simp)).1.grp hg), (H.mine b (by rw [hg]; simp)).2⟩
      · rename_i hg
        exact ⟨(H.mine b hb).1.of_eq (if_neg hg), (H.mine b hb).2⟩
    · rcases hfree with ⟨_, rfl⟩ | ⟨g, rfl, a', len, cap, h1, h2, h3, h4⟩
      · exact ⟨none, 0, 0, rfl, Nat.le_refl _, fun _ => rfl, .inl rfl⟩
      · refine ⟨a', len, cap, h1, h2, h3, h4.imp id ?_⟩
        rintro ⟨sz', b, off, x, g1, g2, g3, g4, g5, g6⟩
        have : sz' = sz := by rcases hz with rfl | rfl <;> simp_all
        subst this
        exact ⟨sz', b, off, x, rfl, g2, g3, g4, by (try simp only); rw [if_pos ⟨g, rfl, g5⟩], g6⟩
  | place b off cap x cs hv hr hlt hc hb hf =>
    subst hv
    rcases hfree with ⟨_, hcon⟩ | ⟨g, rfl, a', len, cap', h1, h2, h3, h4⟩
    · cases hcon
    · simp only [Value.slice.injEq] at h1
      obtain ⟨rfl, rfl, rfl⟩ := h1
      have hpos : 0 < bs.length := List.length_pos_iff.2 hb
      rcases h4 with h4 | ⟨sz', b', off', x', g1, g2, g3, g4, g5, g6⟩
      · omega
      · have : sz' = sz := by rcases hz with rfl | rfl <;> simp_all
        subst this
        simp only [Option.some.injEq, Addr.mk.injEq] at g2
        obtain ⟨rfl, rfl, _⟩ := g2
        cases hr.inj g3
        have hcl := hf.1
        have hle : (as.length + bs.length) * sz' ≤ cap * sz' := Nat.mul_le_mul_right _ hlt
        rw [Nat.add_mul] at hle
        have hynew : ∀ i, (x.toList.take (off + as.length * sz') ++ cs ++ x.toList.drop (off + as.length * sz' + cs.length)).toArray[i]? =
            if off + as.length * sz' ≤ i ∧ i < off + as.length * sz' + cs.length then cs[i - (off + as.length * sz')]? else x[i]? := by
          intro i
          have htl : (x.toList.take (off + as.length * sz')).length = off + as.length * sz' := by simp; omega
          simp only [List.getElem?_toArray]
          by_cases hi : i < off + as.length * sz'
          · rw [List.append_assoc, List.getElem?_append_left (by omega), List.getElem?_take, if_pos hi, if_neg (by omega)]
            simp
          · by_cases hi2 : i < off + as.length * sz' + cs.length
            · rw [List.append_assoc, List.getElem?_append_right (by omega), htl, List.getElem?_append_left (by omega), if_pos (by omega)]
            · rw [List.getElem?_append_right (by simp; omega), List.getElem?_drop, if_neg (by omega), Array.getElem?_toList]
              congr 1
              simp
              omega
        generalize hy : (x.toList.take (off + as.length * sz') ++ cs ++ x.toList.drop (off + as.length * sz' + cs.length)).toArray = y at hynew
        -- the new stable cells
        refine ⟨fun k o => if k = b ∧ off + as.length * sz' ≤ o ∧ o < off + as.length * sz' + cs.length then cs[o - (off + as.length * sz')]? else S k o, setO ω b (.grp gid), ?_⟩
        have hleS : S.le (fun k o => if k = b ∧ off + as.length * sz' ≤ o ∧ o < off + as.length * sz' + cs.length then cs[o - (off + as.length * sz')]? else S k o) := by
          intro k o v hv
          (try simp only)
          rw [if_neg]
          · exact hv
          · rintro ⟨rfl, h1, _⟩
            rw [g6 o h1] at hv
            simp at hv
        have hysz : y.size = x.size := by
          rw [← hy]
          simp
          omega
        refine H.regrp hd hU (fun k o v hv => ?_) (Gro.setRow hr _) hleS (fun k hk hkg => ?_) (fun k hk hkg => ?_) (fun k hk => ?_) ?_ ?_
        · (try simp only at hv)
          split at hv
          · rename_i hc'
            obtain ⟨rfl, h1, h2⟩ := hc'
            rw [hr.setRow.cell, hynew, if_pos ⟨h1, h2⟩]
            exact hv
          · rename_i hc'
            by_cases hkb : k = b
            · subst hkb
              have hcell := H.wf k o v hv
              rw [hr.cell] at hcell
              rw [hr.setRow.cell, hynew, if_neg (fun h => hc' ⟨rfl, h⟩)]
              exact hcell
            · rw [cell_of_heap (setRow_old w b y hkb)]
              exact H.wf k o v hv
        · have hkb : k ≠ b := by rintro rfl; exact hkg g rfl g5
          exact ⟨setRow_old w b y hkb, fun o => by (try simp only); rw [if_neg (fun h => hkb h.1)]⟩
        · unfold setO
          rw [if_neg]
          rintro rfl
          exact hkg g rfl g5
        · unfold setO at hk
          split at hk
          · rename_i hkb; subst hkb
            have := H.mine k (by rw [g5]; simp)
            exact ⟨.inr (this.1.grp g5), by simpa using this.2⟩
          · rename_i hkb
            have := H.mine k hk
            exact ⟨this.1.of_eq (by unfold setO; rw [if_neg hkb]), by simpa using this.2⟩
        · -- the value
          simp only [VR] at hx ⊢
          obtain ⟨a2, cap2, he, hc2, hn2, hs2⟩ := hx
          simp only [Value.slice.injEq] at he
          obtain ⟨rfl, _, rfl⟩ := he
          refine ⟨some ⟨b, off, none⟩, cap, by simp, by simpa using hlt, (fun h => by cases h), fun q hq => ?_⟩
          simp only [Option.some.injEq] at hq
          subst hq
          obtain ⟨_, sz2, hel⟩ := hs2 _ rfl
          refine ⟨rfl, sz', ?_⟩
          have hels : ElsAt S β as b off sz' := by
            by_cases hne : as = []
            · subst hne; simp [ElsAt]
            · have := els_size hel hoa hne
              subst this
              exact hel
          refine ElsAt.append (ElsAt.mono hleS (Ext.refl β) _ _ _ _ hels) (.of_get fun i x' hx' => ?_)
          obtain ⟨v', hv1, hv2, hv3⟩ := hf.2.1 i x' hx'
          refine ⟨v', VR.mono hleS (Ext.refl β) _ _ hv1, hv2, fun j u hu => ?_⟩
          have hcs := hv3 j u (by simpa using hu)
          simp only [List.getElem?_toArray] at hcs
          have hlt' : i * sz' + j < cs.length := by
            rcases Nat.lt_or_ge (i * sz' + j) cs.length with h | h
            · exact h
            · rw [List.getElem?_eq_none h] at hcs; simp at hcs
          (try simp only)
          rw [if_pos ⟨by trivial, by omega, by omega⟩]
          rw [show off + as.length * sz' + i * sz' + j - (off + as.length * sz') = i * sz' + j by omega]
          exact hcs
        · refine ⟨some ⟨b, off, none⟩, as.length + bs.length, cap, rfl, hlt, (fun h => by cases h), .inr ⟨sz', b, off, y, rfl, rfl, hr.setRow, by rw [hysz]; exact hc, by simp [setO], fun o ho => ?_⟩⟩
          (try simp only)
          rw [Nat.add_mul] at ho
          rw [if_neg (by omega)]
          exact g6 o (by omega)
  | fresh x t cap hlt hc hr hb =>
    have H2 := (H.drew).allocS x t ((as ++ bs).length * sz)
    have hsz : w.drew.heap.size = w.heap.size := rfl
    have hωn : ω w.heap.size = .no := by
      cases ho : ω w.heap.size with
      | no => rfl
      | _ => have := (H.mine w.heap.size (by rw [ho]; simp)).2; omega
    have hle : (as.length + bs.length) * sz ≤ cap * sz := Nat.mul_le_mul_right _ hlt
    refine ⟨S.withRowTo w.heap.size ((as ++ bs).length * sz) x, setO ω w.heap.size (.grp gid), H.regrp hd hU H2.wf ((Gro.drew w).trans (Gro.alloc w.drew x t)) ?_ (fun k hk _ => ⟨by rw [alloc_old _ _ (by simpa using hk)]; rfl, fun o => ?_⟩) (fun k hk _ => ?_) (fun k hk => ?_) ?_ ?_⟩
    · intro k o v hv
      unfold Stab.withRowTo
      split
      · rename_i hk; subst hk; rw [H.wf.none (Nat.le_refl _)] at hv; simp at hv
      · exact hv
    · unfold Stab.withRowTo; rw [if_neg (by omega)]
    · unfold setO
      rw [if_neg]
      rintro rfl
      exact hk hωn
    · unfold setO at hk
      split at hk
      · rename_i hkk; subst hkk; exact ⟨.inr H.size, by simp⟩
      · rename_i hkk
        have := H.mine k hk
        exact ⟨this.1.of_eq (by unfold setO; rw [if_neg hkk]), by simp; omega⟩
    · simp only [VR]
      refine ⟨some ⟨w.heap.size, 0, none⟩, cap, by simp, by simpa using hlt, (fun h => by cases h), fun q hq => ?_⟩
      simp only [Option.some.injEq] at hq
      subst hq
      refine ⟨rfl, sz, .of_get fun i x' hx' => ?_⟩
      obtain ⟨v', hv1, hv2, hv3⟩ := hr i x' hx'
      have hi : i < (as ++ bs).length := by
        rcases Nat.lt_or_ge i (as ++ bs).length with h | h
        · exact h
        · rw [List.getElem?_eq_none h] at hx'; simp at hx'
      refine ⟨v', VR.mono (fun k o v hv => ?_) (Ext.refl β) _ _ hv1, hv2, fun j u hu => ?_⟩
      · unfold Stab.withRowTo
        split
        · rename_i hk; subst hk; rw [H.wf.none (Nat.le_refl _)] at hv; simp at hv
        · exact hv
      · have hj : j < sz := by
          rcases Nat.lt_or_ge j v'.cells.toList.length with h | h
          · simp [hv2] at h; exact h
          · rw [List.getElem?_eq_none h] at hu; simp at hu
        have hm : (i + 1) * sz ≤ (as ++ bs).length * sz := Nat.mul_le_mul_right _ hi
        rw [Nat.add_mul] at hm
        unfold Stab.withRowTo
        rw [if_pos rfl, if_pos (Nat.lt_of_lt_of_le (show 0 + i * sz + j < i * sz + 1 * sz by omega) hm), Nat.zero_add]
        exact hv3 j u (by simpa using hu)
    · refine ⟨some ⟨w.heap.size, 0, none⟩, as.length + bs.length, cap, rfl, hlt, (fun h => by cases h), .inr ⟨sz, w.heap.size, 0, x, rfl, rfl, Row.new w.drew x t, by omega, by simp [setO], fun o ho => ?_⟩⟩
      unfold Stab.withRowTo
      rw [if_pos rfl, if_neg]
      rw [List.length_append]
      exact Nat.not_lt.2 (by simpa using ho)
end
end Go.Av

/- What the operations of the abstract evaluator read and write. No condition. -/
namespace Go.Av
variable [Dr]

def ActAll (p : Upd → Prop) : Act1 → Prop
  | .bad => True
  | .stat u => p u
  | .dyn _ sh => ∀ v, p (sh v)
  | .thr _ => True

omit [Dr] in
theorem ActAll.cond {p : Upd → Prop} {b : Bool} {x y : Act1} (h1 : b = true → ActAll p x) (h2 : b = false → ActAll p y) : ActAll p (bif b then x else y) := by
  cases b with
  | true => exact h1 rfl
  | false => exact h2 rfl

structure Shape (e : Env) (gid : Nat) (f : Foot) (ss : Option Nat) (u : Upd) : Prop where
  ls : f.wl = false → u.ls = []
  lb : f.wl = false → u.lb = none
  unlb : f.wl = false → u.unlb = none
  add : f.wl = false → ∀ x ∈ u.add, x.1 = gid
  noad : f.ad = false → u.add = []
  nodr : f.dr = false → u.drop = none
  loc : f.wl = false → ∀ C off, u.ent.v = .loc C off → ∃ t off', (e.get t).v = .loc C off'
  keys : ∀ x ∈ u.ls, 1000 ≤ x.1 ∨ ss = some x.1

omit [Dr] in
theorem Shape.ofV (e : Env) (gid : Nat) (f : Foot) (ss : Option Nat) (a : AV) : Shape e gid f ss (.ofV a) :=
  ⟨fun _ => rfl, fun _ => rfl, fun _ => rfl, fun _ x h => by simp [Upd.ofV] at h, fun _ => rfl, fun _ => rfl, fun _ C off h => by simp [Upd.ofV] at h, fun x h => by simp [Upd.ofV] at h⟩
omit [Dr] in
theorem Shape.own (e : Env) (gid : Nat) (f : Foot) (ss : Option Nat) (a : AV) (z : Option Nat) (h : f.ad = true) : Shape e gid f ss (.own a gid z) :=
  ⟨fun _ => rfl, fun _ => rfl, fun _ => rfl, fun _ x h => by simp [Upd.own] at h; rw [h], fun h' => by (rw [h] at h'; cases h'), fun _ => rfl, fun _ C off h => by simp [Upd.own] at h, fun x h => by simp [Upd.own] at h⟩
omit [Dr] in
theorem Shape.ent (e : Env) (gid : Nat) (f : Foot) (ss : Option Nat) (x : Ent) (h : ∀ C off, x.v = .loc C off → ∃ t off', (e.get t).v = .loc C off') : Shape e gid f ss { ent := x } :=
  ⟨fun _ => rfl, fun _ => rfl, fun _ => rfl, fun _ x h => by simp at h, fun _ => rfl, fun _ => rfl, fun _ C off h' => h C off h', fun x h => by simp at h⟩
omit [Dr] in
theorem Shape.get (e : Env) (gid : Nat) (f : Foot) (ss : Option Nat) (t : Nat) : Shape e gid f ss { ent := e.get t } := .ent _ _ _ _ _ fun _ off h => ⟨t, off, h⟩

omit [Dr] in
theorem keys_lsOf {B n gid : Nat} {cs : List AV} {offs : List Nat} (hB : 1000 ≤ B) : ∀ x ∈ lsOf B cs offs gid n, 1000 ≤ x.1 := by
  intro x hx
  unfold lsOf at hx
  simp only [List.mem_map] at hx
  obtain ⟨i, _, rfl⟩ := hx
  simp only
  omega

omit [Dr] in
theorem gsOf_nil {offs : List Nat} {gid : Nat} (h : offs.isEmpty = true) : gsOf offs gid = [] := by
  have : offs = [] := by simpa using h
  subst this; rfl

variable {cx : Cx} {e : Env} {gid : Nat} {o : Oper}

omit [Dr] in
theorem move_shape (told : Bool) (x : Operand) (f : Foot) (hf : f.ad = isNilConst x) : ActAll (Shape e gid f none) (opMove told e gid x) := by
  unfold opMove
  split
  · exact Shape.get ..
  · cases h : isNilConst x with
    | true =>
      cases told with
      | true => exact Shape.ofV ..
      | false => exact Shape.own _ _ _ _ _ _ (by rw [hf, h])
    | false => exact Shape.ofV ..

omit [Dr] in
theorem inLb_inv {e : Env} {B off n : Nat} (h : inLb e B off n = true) : ∃ m, lbSize e.lb B = some m ∧ off + n ≤ m ∧ 1000 ≤ B := by
  unfold inLb at h
  split at h
  · rename_i m hm; simp at h; exact ⟨m, hm, h.1, h.2⟩
  · simp at h

omit [Dr] in
theorem load_shape (d : Option Tmp) (t : TypeId) (p : Nat) (f : Foot) : ActAll (Shape e gid f none) (opLoad cx e d t p) := by
  unfold opLoad
  split
  · split
    · trivial
    · cases inLb e _ _ _ with
      | false => trivial
      | true =>
        simp only [cond_true]
        rename_i ti _
        cases ti.agg with
        | true => exact Shape.ofV ..
        | false =>
          simp only [cond_false]
          cases decide (ti.size = 1) with
          | true => exact Shape.get ..
          | false => trivial
  · cases memO cx.ann.hl d with
    | true => exact fun v => Shape.ofV ..
    | false => exact fun v => Shape.ofV ..
omit [Dr] in
theorem Shape.wl {e : Env} {gid : Nat} {f : Foot} {ss : Option Nat} {u : Upd} (hw : f.wl = true) (h1 : f.ad = false → u.add = []) (h2 : u.drop = none) (h3 : ∀ x ∈ u.ls, 1000 ≤ x.1 ∨ ss = some x.1) : Shape e gid f ss u :=
  ⟨fun h => by (rw [hw] at h; cases h), fun h => by (rw [hw] at h; cases h), fun h => by (rw [hw] at h; cases h), fun h => by (rw [hw] at h; cases h), h1, fun _ => h2, fun h => by (rw [hw] at h; cases h), h3⟩

omit [Dr] in
theorem store_shape (t p : Nat) (y : Operand) (f : Foot) (hw : f.wl = true) (ha : f.ad = (!(findN cx.ann.nils p).isEmpty || isNilConst y)) : ActAll (Shape e gid f (some p)) (opStore cx e gid t p y) := by
  unfold opStore
  split
  · rename_i B off _
    split
    · trivial
    · rename_i ti _
      cases hlb : inLb e B off ti.size with
      | false => trivial
      | true =>
        obtain ⟨m, _, _, hB⟩ := inLb_inv hlb
        simp only [cond_true]
        cases isS (findK cx.ann.kinds p .L) with
        | true =>
          simp only [cond_true]
          cases wholeB e B off p ti.size with
          | false => trivial
          | true =>
            simp only [cond_true]
            exact fun v => Shape.wl hw (fun _ => rfl) rfl (fun x hx => by simp at hx; exact .inr (by rw [hx]))
        | false =>
          simp only [cond_false]
          cases ti.agg with
          | true =>
            simp only [cond_true]
            refine fun v => Shape.wl hw (fun h => ?_) rfl (fun x hx => .inl (keys_lsOf (by omega) x hx))
            rw [ha] at h
            simp only [Bool.or_eq_false_iff, Bool.not_eq_false'] at h
            exact gsOf_nil h.1
          | false =>
            simp only [cond_false]
            cases decide (ti.size = 1) with
            | false => trivial
            | true =>
              simp only [cond_true]
              split
              · split
                · exact fun v => Shape.wl hw (fun _ => rfl) rfl (fun x hx => by simp at hx; rw [hx]; exact .inl (by simp only; omega))
                · trivial
              · cases hn : isNilConst y with
                | true =>
                  refine Shape.wl hw (fun h => ?_) rfl (fun x hx => by simp at hx; rw [hx]; exact .inl (by simp only; omega))
                  rw [ha, hn] at h
                  simp at h
                | false => exact fun v => Shape.wl hw (fun _ => rfl) rfl (fun x hx => by simp at hx; rw [hx]; exact .inl (by simp only; omega))
  · exact fun v => Shape.ofV ..

omit [Dr] in
theorem field_shape (t p i : Nat) (f : Foot) : ActAll (Shape e gid f none) (opField cx e t p i) := by
  unfold opField
  split
  · rename_i B off hv
    split
    · trivial
    · split
      · trivial
      · split
        · trivial
        · rename_i fi _
          cases decide (fi.size = 0) with
          | true => trivial
          | false => exact Shape.ent _ _ _ _ _ fun C o' h => ⟨p, off, by simp at h; rw [hv, h.1]⟩
  · exact fun v => Shape.ofV ..

omit [Dr] in
theorem index_shape (t p : Nat) (i : Operand) (f : Foot) : ActAll (Shape e gid f none) (opIndexAddr cx e t p i) := by
  unfold opIndexAddr
  split
  · rename_i B off hv
    split
    · split
      · split
        · trivial
        · refine ActAll.cond (p := Shape e gid f none) (y := .bad) (fun _ => ?_) (fun _ => trivial)
          exact Shape.ent _ _ _ _ _ fun C o' h => ⟨p, off, by simp at h; rw [hv, h.1]⟩
      · trivial
    · trivial
  · exact fun v => Shape.ofV ..

omit [Dr] in
theorem alloc_shape (s t : Nat) (f : Foot) (hf : f = (match findK cx.ann.kinds s .L with | .F => {} | .H => { wh := true } | _ => { wl := true, ad := !(findN cx.ann.nils s).isEmpty })) : ActAll (Shape e gid f none) (opAlloc cx e gid s t) := by
  unfold opAlloc
  split
  · trivial
  · rename_i ti _
    have key : f.wl = true → (f.ad = !(findN cx.ann.nils s).isEmpty) → ActAll (Shape e gid f none) (match findN cx.ann.nils s with
      | offs => bif decide (ti.size < 1000) && locFree e.sl (lbase s) && nilsAt (zerosOf true ti) offs ti.size then
          .stat { ent := ⟨.loc (lbase s) 0, none⟩, ls := lsOf (lbase s) (zerosOf (memN cx.ann.hb s) ti) offs gid ti.size, add := gsOf offs gid, lb := some (lbase s, ti.size) } else .bad) := by
      intro hw ha
      simp only
      cases decide (ti.size < 1000) && locFree e.sl (lbase s) && nilsAt (zerosOf true ti) (findN cx.ann.nils s) ti.size with
      | false => trivial
      | true => exact Shape.wl hw (fun h => gsOf_nil (by rw [ha] at h; simpa using h)) rfl (fun x hx => .inl (keys_lsOf (by unfold lbase; omega) x hx))
    cases hk : findK cx.ann.kinds s .L with
    | F => exact Shape.ofV ..
    | H => exact fun v => Shape.ofV ..
    | L => rw [hk] at hf; exact key (by rw [hf]) (by rw [hf])
    | S => rw [hk] at hf; exact key (by rw [hf]) (by rw [hf])

omit [Dr] in
theorem box_shape (s t : Nat) (x : Operand) (f : Foot) (hf : f = (match findK cx.ann.kinds s .F with | .F => {} | .H => { wh := true } | _ => { wl := true })) : ActAll (Shape e gid f none) (opBox cx e s t x) := by
  unfold opBox
  have key : f.wl = true → ActAll (Shape e gid f none) (match cx.T t with
    | none => .bad
    | some ti => bif decide (ti.size < 1000) && locFree e.sl (lbase s) then
        .dyn (cellsM ti.size (opnd e x)) fun v => { ent := ⟨.loc (lbase s) 0, none⟩, ls := lsOf (lbase s) (acells v) [] 0 ti.size, lb := some (lbase s, ti.size) }
      else .bad) := by
    intro hw
    split
    · trivial
    · rename_i ti _
      cases decide (ti.size < 1000) && locFree e.sl (lbase s) with
      | false => trivial
      | true => exact fun v => Shape.wl hw (fun _ => rfl) rfl (fun x hx => .inl (keys_lsOf (by unfold lbase; omega) x hx))
  cases hk : findK cx.ann.kinds s .F with
  | F => exact Shape.ofV ..
  | H => exact fun v => Shape.ofV ..
  | L => rw [hk] at hf; exact key (by rw [hf])
  | S => rw [hk] at hf; exact key (by rw [hf])

omit [Dr] in
theorem call_shape (c : Call) (f : Foot) (ho : o.op = .call c) (hf : f = footOf cx o) : ActAll (Shape e gid f none) (opCall cx e gid o c) := by
  unfold opCall
  cases hc : c.callee with
  | invoke r m => trivial
  | value x =>
    cases x with
    | func g =>
      simp only
      refine ActAll.cond (fun _ => ActAll.cond (fun _ v => Shape.ofV ..) (fun _ => trivial)) fun _ => ?_
      intro v
      cases ho' : cx.own g with
      | none => exact Shape.ofV ..
      | some z =>
        refine Shape.own _ _ _ _ _ _ ?_
        rw [hf]
        unfold footOf
        rw [ho]
        simp only [hc, ho']
        cases cx.iso g <;> rfl
    | tmp t => exact fun v => Shape.ofV ..
    | const t => exact fun v => Shape.ofV ..
    | global t => exact fun v => Shape.ofV ..
  | builtin b =>
    cases b <;> simp only <;> (try trivial)
    case clear =>
      split
      · exact fun v => Shape.ofV ..
      · trivial
    case append =>
      split
      · rename_i t u x y hts hxs
        cases isAppT cx.T u with
        | false => trivial
        | true =>
          simp only [Bool.not_true, cond_false]
          cases hha : memO cx.ann.ha o.dst with
          | true => exact fun v => Shape.ofV ..
          | false =>
            have hfa : f.ad = true ∧ f.wl = false ∧ f.dr = !isNilConst x := by
              rw [hf]; unfold footOf; rw [ho]; simp only [hc, hha, cond_false, hxs]; exact ⟨trivial, trivial, trivial⟩
            cases hn : isNilConst x with
            | true => exact fun v => Shape.own _ _ _ _ _ _ hfa.1
            | false =>
              simp only [cond_false]
              split
              · split
                · trivial
                · split
                  · trivial
                  · rename_i z _
                    cases szOk z (elemSize cx.T t) with
                    | false => trivial
                    | true =>
                      simp only [cond_true]
                      intro v
                      have hdr : f.dr = true := by rw [hfa.2.2, hn]; rfl
                      exact ⟨fun _ => rfl, fun _ => rfl, fun _ => rfl, fun _ x h => by simp [Upd.own] at h; rw [h], fun h' => by (rw [hfa.1] at h'; cases h'), fun h' => by (rw [hdr] at h'; cases h'), fun _ C off h => by simp [Upd.own] at h, fun x h => by simp [Upd.own] at h⟩
              · trivial
      · trivial
    case len =>
      split
      · exact fun v => Shape.ofV ..
      · trivial
    case min => exact fun v => Shape.ofV ..
    case max => exact fun v => Shape.ofV ..

omit [Dr] in
theorem fzA_shape (f : Foot) (ss : Option Nat) (A : Act1) : ActAll (Shape e gid f ss) (fzA A) := by
  cases A with
  | bad => trivial
  | stat u => exact fun v => Shape.ofV ..
  | dyn m sh => exact fun v => Shape.ofV ..
  | thr v => trivial

omit [Dr] in
theorem opD_shape (cx : Cx) (e : Env) (gid : Nat) (o : Oper) : ActAll (Shape e gid (footOf cx o) (storeSlot o)) (opD cx e gid o) := by
  have hss : (∀ t p y, o.op ≠ .store t (.tmp p) y) → storeSlot o = none := by
    intro h; unfold storeSlot; split
    · rename_i t p y hq; exact absurd hq (h t p y)
    · rfl
  unfold opD
  cases ho : o.op
  case store t x y =>
    simp only
    cases x <;> (try trivial)
    rename_i p
    cases hd : o.dst with
    | some d => trivial
    | none =>
      have h1 : storeSlot o = some p := by unfold storeSlot; rw [ho]
      rw [h1]
      exact ActAll.cond (fun _ => trivial) fun _ => store_shape t p y _ (by unfold footOf; rw [ho]) (by unfold footOf; rw [ho])
  all_goals
    have hs0 := hss (by rw [ho]; intros; simp)
    rw [hs0]
    simp only
  case move x => exact move_shape _ x _ (by unfold footOf; rw [ho])
  case assign x => exact move_shape _ x _ (by unfold footOf; rw [ho])
  case box t x =>
    cases hd : o.dst with
    | none => trivial
    | some s => exact box_shape s t x _ (by unfold footOf; rw [ho]; simp only [hd]; cases findK cx.ann.kinds s .F <;> rfl)
  case alloc t =>
    cases hd : o.dst with
    | none => trivial
    | some s => exact alloc_shape s t _ (by unfold footOf; rw [ho]; simp only [hd]; cases findK cx.ann.kinds s .L <;> rfl)
  case load t x => cases x <;> first | exact ActAll.cond (fun _ => trivial) (fun _ => ActAll.cond (fun _ => fzA_shape _ _ _) (fun _ => load_shape ..)) | trivial
  case buildSlice =>
    intro v
    cases hno : memO cx.ann.no o.dst with
    | true => exact Shape.ofV ..
    | false => exact Shape.own _ _ _ _ _ _ (by unfold footOf; rw [ho]; simp [hno])
  case makeSlice => exact fun v => Shape.own _ _ _ _ _ _ (by unfold footOf; rw [ho])
  case slice t x lo hi mx =>
    cases mx with
    | none => exact fun v => Shape.ofV ..
    | some m => exact fun v => Shape.own _ _ _ _ _ _ (by unfold footOf; rw [ho]; rfl)
  case nilCheck x =>
    cases x <;> (try trivial)
    simp only
    split
    · exact Shape.get ..
    · exact fun v => Shape.ofV ..
  case fieldAddr t x i => cases x <;> first | exact field_shape .. | trivial
  case indexAddr t x i => cases x <;> first | exact index_shape .. | trivial
  case call c => exact call_shape c _ ho rfl
  case panic x => exact fun v => Shape.ofV ..
  case makeFunc => exact Shape.ofV ..
  case binOp => exact ActAll.cond (fun _ => trivial) fun _ v => Shape.ofV ..
  all_goals first | trivial | exact fun v => Shape.ofV ..
end Go.Av

/- What the operations of the abstract evaluator hang on. No condition. -/
namespace Go.Av
variable [Dr]

structure Agree (cx : Cx) (o : Oper) (e e' : Env) : Prop where
  ops : ∀ t ∈ opTmps o, e'.get t = e.get t
  loc : ((footOf cx o).rl || (footOf cx o).wl) = true → (∀ t, 1000 ≤ t → e'.get t = e.get t) ∧ ∀ B, lbSize e'.lb B = lbSize e.lb B
  al : (footOf cx o).dr = true → ∀ g, aliveG e'.al g = aliveG e.al g
  lf : (footOf cx o).wl = true → ∀ s, o.dst = some s → locFree e.sl (lbase s) = true → locFree e'.sl (lbase s) = true

section
variable {cx : Cx} {e e' : Env} {gid : Nat} {o : Oper}

omit [Dr] in
theorem Agree.get (A : Agree cx o e e') {t : Nat} (h : Operand.tmp t ∈ o.op.operands.toList) : e'.get t = e.get t :=
  A.ops t (List.mem_filterMap.2 ⟨.tmp t, h, rfl⟩)
omit [Dr] in
theorem Agree.opnd (A : Agree cx o e e') {x : Operand} (h : x ∈ o.op.operands.toList) : opnd e' x = opnd e x := by
  cases x with
  | tmp t => simp only [Av.opnd, Env.av]; rw [A.get h]
  | const v => rfl
  | func f => rfl
  | global g => rfl
omit [Dr] in
theorem Agree.opnds (A : Agree cx o e e') {l : List Operand} (h : ∀ x ∈ l, x ∈ o.op.operands.toList) : l.map (Av.opnd e') = l.map (Av.opnd e) :=
  List.map_congr_left fun x hx => A.opnd (h x hx)
omit [Dr] in
theorem Agree.parts (A : Agree cx o e e') {l : List (Nat × Operand)} (h : ∀ x ∈ l, x.2 ∈ o.op.operands.toList) : l.map (fun p => (p.1, Av.opnd e' p.2)) = l.map (fun p => (p.1, Av.opnd e p.2)) :=
  List.map_congr_left fun x hx => by rw [A.opnd (h x hx)]

omit [Dr] in
theorem getLs_congr (h : ∀ t, 1000 ≤ t → e'.get t = e.get t) {B : Nat} (hB : 1000 ≤ B) : ∀ n, getLs e' B n = getLs e B n
  | 0 => rfl
  | n + 1 => by
    simp only [getLs, Env.av]
    rw [getLs_congr h hB n, h (B + n) (by omega)]

omit [Dr] in
theorem inLb_congr (h : ∀ B, lbSize e'.lb B = lbSize e.lb B) (B off n : Nat) : inLb e' B off n = inLb e B off n := by
  unfold inLb; rw [h]
omit [Dr] in
theorem wholeB_congr (h : ∀ B, lbSize e'.lb B = lbSize e.lb B) (B off p n : Nat) : wholeB e' B off p n = wholeB e B off p n := by
  unfold wholeB; rw [h]

omit [Dr] in
theorem move_agree {told : Bool} {x : Operand} (A : Agree cx o e e') (h : x ∈ o.op.operands.toList) : opMove told e' gid x = opMove told e gid x := by
  unfold opMove
  cases x with
  | tmp t => simp only; rw [A.get h]
  | _ => rfl

omit [Dr] in
theorem load_agree {d : Option Tmp} {t : TypeId} {p : Nat} (A : Agree cx o e e') (hp : Operand.tmp p ∈ o.op.operands.toList) (hf : (footOf cx o).rl = true ∨ isLocE (e.get p) = false) : opLoad cx e' d t p = opLoad cx e d t p := by
  unfold opLoad
  rw [A.get hp]
  cases hv : (e.get p).v with
  | val a => rfl
  | loc B off =>
    replace hf : (footOf cx o).rl = true := hf.elim id fun h => by simp [isLocE, hv] at h
    simp only
    cases cx.T t with
    | none => rfl
    | some ti =>
      obtain ⟨h1, h2⟩ := A.loc (by rw [hf]; rfl)
      simp only
      rw [inLb_congr h2]
      cases hlb : inLb e B off ti.size with
      | false => rfl
      | true =>
        obtain ⟨m, _, _, hB⟩ := inLb_inv hlb
        rw [getLs_congr h1 (by omega), h1 (B + off) (by omega)]

omit [Dr] in
theorem store_agree {t : TypeId} {p : Nat} {y : Operand} (A : Agree cx o e e') (hp : Operand.tmp p ∈ o.op.operands.toList) (hy : y ∈ o.op.operands.toList) (hf : (footOf cx o).wl = true) : opStore cx e' gid t p y = opStore cx e gid t p y := by
  unfold opStore
  rw [A.get hp, A.opnd hy]
  obtain ⟨h1, h2⟩ := A.loc (by rw [hf]; simp)
  cases hv : (e.get p).v with
  | val a => rfl
  | loc B off =>
    simp only
    cases cx.T t with
    | none => rfl
    | some ti =>
      simp only
      rw [inLb_congr h2, wholeB_congr h2]
      cases y with
      | tmp s => simp only; rw [A.get hy]
      | _ => rfl

omit [Dr] in
theorem field_agree {t : TypeId} {p i : Nat} (A : Agree cx o e e') (hp : Operand.tmp p ∈ o.op.operands.toList) : opField cx e' t p i = opField cx e t p i := by
  unfold opField
  rw [A.get hp]
omit [Dr] in
theorem index_agree {t : TypeId} {p : Nat} {i : Operand} (A : Agree cx o e e') (hp : Operand.tmp p ∈ o.op.operands.toList) (hi : i ∈ o.op.operands.toList) : opIndexAddr cx e' t p i = opIndexAddr cx e t p i := by
  unfold opIndexAddr
  rw [A.get hp, A.opnd hi]

omit [Dr] in
theorem alloc_agree {s : Nat} {t : TypeId} (A : Agree cx o e e') (hs : o.dst = some s) (hf : findK cx.ann.kinds s .L ≠ .F → findK cx.ann.kinds s .L ≠ .H → (footOf cx o).wl = true) (hb : opAlloc cx e gid s t ≠ .bad) : opAlloc cx e' gid s t = opAlloc cx e gid s t := by
  unfold opAlloc at hb ⊢
  cases ht : cx.T t with
  | none => rfl
  | some ti =>
    rw [ht] at hb
    simp only at hb ⊢
    cases hk : findK cx.ann.kinds s .L <;> rw [hk] at hb hf <;> simp only at hb ⊢
    all_goals
      have hw := hf (by simp) (by simp)
      cases hl : locFree e.sl (lbase s) with
      | false => exact absurd (by rw [hl]; simp) hb
      | true => rw [A.lf hw s hs hl]

omit [Dr] in
theorem box_agree {s : Nat} {t : TypeId} {x : Operand} (A : Agree cx o e e') (hs : o.dst = some s) (hx : x ∈ o.op.operands.toList) (hf : findK cx.ann.kinds s .F ≠ .F → findK cx.ann.kinds s .F ≠ .H → (footOf cx o).wl = true) (hb : opBox cx e s t x ≠ .bad) : opBox cx e' s t x = opBox cx e s t x := by
  unfold opBox at hb ⊢
  rw [A.opnd hx]
  cases hk : findK cx.ann.kinds s .F <;> rw [hk] at hb hf <;> simp only at hb ⊢
  all_goals
    cases ht : cx.T t with
    | none => rfl
    | some ti =>
      rw [ht] at hb
      simp only at hb ⊢
      have hw := hf (by simp) (by simp)
      cases hl : locFree e.sl (lbase s) with
      | false => exact absurd (by rw [hl]; simp) hb
      | true => rw [A.lf hw s hs hl]

omit [Dr] in
theorem call_agree {c : Call} (A : Agree cx o e e') (ho : o.op = .call c) : opCall cx e' gid o c = opCall cx e gid o c := by
  have hargs : ∀ x ∈ c.args.toList, x ∈ o.op.operands.toList := fun x hx => by
    rw [ho]; simp [Op.operands, Call.operands]; exact .inr (by simpa using hx)
  have hT : ∀ b : Bool, c.args.toList.map (opndT b e') = c.args.toList.map (opndT b e) := fun b => by
    refine List.map_congr_left fun x hx => ?_
    unfold opndT opndN
    rw [A.opnd (hargs x hx)]
  unfold opCall
  rw [A.opnds hargs, hT]
  cases hc : c.callee with
  | invoke r m => rfl
  | value f =>
    have hf : f ∈ o.op.operands.toList := by rw [ho]; simp [Op.operands, Call.operands, hc]
    cases f with
    | func g => rfl
    | _ => simp only; rw [A.opnd hf]
  | builtin b =>
    cases b <;> simp only
    case clear =>
      split
      · rename_i t ts x xs hts hxs
        rw [A.opnd (hargs x (by rw [hxs]; simp))]
      · rfl
    case len =>
      split
      · rename_i t ts x xs hts hxs
        rw [A.opnd (hargs x (by rw [hxs]; simp))]
      · rfl
    case append =>
      split
      · rename_i t u x y hts hxs
        have hx := hargs x (by rw [hxs]; simp)
        rw [A.opnd hx, A.opnd (hargs y (by rw [hxs]; simp))]
        cases isAppT cx.T u with
        | false => rfl
        | true =>
          simp only [Bool.not_true, cond_false]
          cases hha : memO cx.ann.ha o.dst with
          | true =>
            have hns : noSpare e' x = noSpare e x := by
              cases x with
              | tmp s =>
                have hdr : (footOf cx o).dr = true := by
                  unfold footOf; rw [ho]; simp only [hc, hha, cond_true]
                unfold noSpare
                simp only
                rw [A.get hx]
                cases (e.get s).g with
                | none => rfl
                | some g => simp only; rw [A.al hdr]
              | _ => rfl
            rw [hns]
            rfl
          | false =>
            simp only [cond_false]
            cases hn : isNilConst x with
            | true => rfl
            | false =>
              simp only [cond_false]
              cases x with
              | tmp s =>
                simp only
                rw [A.get hx]
                have hdr : (footOf cx o).dr = true := by
                  unfold footOf; rw [ho]; simp only [hc, hha, cond_false, hxs, hn]; rfl
                cases (e.get s).g with
                | none => rfl
                | some g => simp only; rw [A.al hdr]
              | _ => rfl
      · rfl

omit [Dr] in
theorem kind_wl {k : Kind} {f g h : Foot} (hh : h.wl = true) (h1 : k ≠ .F) (h2 : k ≠ .H) : (match k with | .F => f | .H => g | _ => h).wl = true := by
  cases k <;> first | exact absurd rfl h1 | exact absurd rfl h2 | exact hh

omit [Dr] in
theorem opD_agree (A : Agree cx o e e') (hb : opD cx e gid o ≠ .bad) : opD cx e' gid o = opD cx e gid o := by
  have hm : ∀ {x : Operand}, x ∈ o.op.operands.toList → opnd e' x = opnd e x := fun h => A.opnd h
  unfold opD at hb ⊢
  cases ho : o.op <;> rw [ho] at hb hm <;> simp only [Op.operands] at hm hb ⊢
  case move x => exact move_agree A (by rw [ho]; simp [Op.operands])
  case assign x => exact move_agree A (by rw [ho]; simp [Op.operands])
  case pick k x y => rw [hm (x := k) (by simp), hm (x := x) (by simp), hm (x := y) (by simp)]
  case box t x =>
    cases hd : o.dst with
    | none => rfl
    | some s =>
      rw [hd] at hb
      exact box_agree A hd (by rw [ho]; simp [Op.operands]) (fun h1 h2 => by unfold footOf; rw [ho, hd]; exact kind_wl rfl h1 h2) hb
  case alloc t =>
    cases hd : o.dst with
    | none => rfl
    | some s =>
      rw [hd] at hb
      exact alloc_agree A hd (fun h1 h2 => by unfold footOf; rw [ho, hd]; exact kind_wl rfl h1 h2) hb
  case load t x =>
    cases x with
    | tmp p =>
      simp only
      rw [A.get (t := p) (by rw [ho]; simp [Op.operands])]
      cases hnl : memO cx.ann.nl o.dst && isLocE (e.get p) with
      | true => rfl
      | false =>
        rw [load_agree A (by rw [ho]; simp [Op.operands]) (by
          rw [Bool.and_eq_false_iff] at hnl
          rcases hnl with h | h
          · exact .inl (by unfold footOf; rw [ho]; simp [h])
          · exact .inr h)]
    | _ => rfl
  case store t x y =>
    cases x with
    | tmp p =>
      cases hd : o.dst with
      | some d => rfl
      | none =>
        simp only
        rw [A.get (t := p) (by rw [ho]; simp [Op.operands]), store_agree A (by rw [ho]; simp [Op.operands]) (by rw [ho]; simp [Op.operands]) (by unfold footOf; rw [ho])]
    | _ => rfl
  case build t ps => rw [A.parts (l := ps.toList) (fun p hp => by rw [ho]; simp [Op.operands]; exact ⟨p.1, by simpa using hp⟩)]
  case buildSlice t n ps => rw [A.parts (l := ps.toList) (fun p hp => by rw [ho]; simp [Op.operands]; exact ⟨p.1, by simpa using hp⟩)]
  case nilCheck x =>
    cases x with
    | tmp p => simp only; rw [A.get (by rw [ho]; simp [Op.operands])]
    | _ => rfl
  case binOp op t x y u =>
    have hn : ∀ {x : Operand}, x ∈ o.op.operands.toList → opndN e' x = opndN e x := fun h => by unfold opndN; rw [A.opnd h]
    rw [hn (x := x) (by rw [ho]; simp [Op.operands]), hn (x := y) (by rw [ho]; simp [Op.operands])]
  case unOp op t x => rw [hm (x := x) (by simp)]
  case convert s t x => rw [hm (x := x) (by simp)]
  case makeInterface t x => rw [hm (x := x) (by simp)]
  case makeFunc f x y =>
    rw [A.opnds (l := x.toList) (fun z hz => by rw [ho]; simp [Op.operands]; exact .inl (by simpa using hz)), A.opnds (l := y.toList) (fun z hz => by rw [ho]; simp [Op.operands]; exact .inr (by simpa using hz))]
  case makeSlice t x y => rw [hm (x := x) (by simp), hm (x := y) (by simp)]
  case slice t x lo hi mx =>
    have h1 : ∀ z : Option Operand, (∀ y, z = some y → y ∈ o.op.operands.toList) → z.map (opnd e') = z.map (opnd e) := by
      intro z hz
      cases z with
      | none => rfl
      | some y => simp only [Option.map_some]; rw [A.opnd (hz y rfl)]
    rw [hm (x := x) (by simp), h1 lo (fun y hy => by rw [ho]; simp [Op.operands, hy]), h1 hi (fun y hy => by rw [ho]; simp [Op.operands, hy]), h1 mx (fun y hy => by rw [ho]; simp [Op.operands, hy])]
  case fieldAddr t x i =>
    cases x with
    | tmp p => exact field_agree A (by rw [ho]; simp [Op.operands])
    | _ => rfl
  case indexAddr t x i =>
    cases x with
    | tmp p => exact index_agree A (by rw [ho]; simp [Op.operands]) (by rw [ho]; simp [Op.operands])
    | _ => rfl
  case field t x f => rw [hm (x := x) (by simp)]
  case index t x i => rw [hm (x := x) (by simp), hm (x := i) (by simp)]
  case extract x i => rw [hm (x := x) (by simp)]
  case panic x => rw [hm (x := x) (by simp)]
  case call c => exact call_agree A ho
end
end Go.Av

/- One operation of the abstract evaluator is right. Conditions: the table of types is the program's; the calls are right. -/
namespace Go.Av
variable [Dr]

def HOwn (β : List Blk) (h : Hp) (b : Nat) : Prop := ∃ (l : Nat) (cs : List AV) (n : Nat), h[l]? = some cs ∧ cs ≠ [] ∧ β[l]? = some (b, n)
def HeapX (S : Stab) (β : List Blk) (w : World) (h : Hp) : Prop := β.length = h.length ∧ ∃ ω, HeapR S β w ω h

/-- What the calls lean on of the package variables; nobody owns them. -/
def GOK (β : List Blk) (h : Hp) (w : World) : Prop := GOKw w ∧ ∀ b, b < gN → ¬ HOwn β h b
/-- What a piece of a run leaves, seen from outside: E are the rows that it may turn. -/
structure Left (E : Nat → Prop) (S : Stab) (β : List Blk) (w : World) (S' : Stab) (β' : List Blk) (w' : World) (h' : Hp) : Prop where
  le : S.le S'
  ext : Ext β β'
  wf : Wf S' w'
  gro : Gro w w'
  keep : ∀ b, b < w.heap.size → ¬ E b → w'.heap[b]? = w.heap[b]? ∧ ∀ o, S' b o = S b o
  heap : HeapX S' β' w' h'
  owned : ∀ b, HOwn β' h' b → E b ∨ w.heap.size ≤ b

theorem Left.size {E : Nat → Prop} {S : Stab} {β : List Blk} {w : World} {S' : Stab} {β' : List Blk} {w' : World} {h' : Hp} (L : Left E S β w S' β' w' h') : w.heap.size ≤ w'.heap.size := L.gro.size
/-- A result that the caller owns. -/
def OwnedR (n0 : Nat) (S' : Stab) (β' : List Blk) (w' : World) (h' : Hp) (sz : Nat) (v : Value) : Prop :=
  ∃ a len cap, v = .slice a len cap ∧ len ≤ cap ∧ (a = none → cap = 0) ∧ (len = cap ∨ ∃ b off x, a = some ⟨b, off, none⟩ ∧ Row w' b x ∧ off + cap * sz ≤ x.size ∧ n0 ≤ b ∧ ¬ HOwn β' h' b ∧
    ∀ o, off + len * sz ≤ o → S' b o = none)

def CPost (own : Option Nat) (S : Stab) (β : List Blk) (h : Hp) (w : World) (r : R AV) (en : Ending) (w' : World) : Prop :=
  match r with
  | .ok rv h' => ∃ S' β' v, en = .returned v ∧ VR S' β' rv v ∧ Left (HOwn β h) S β w S' β' w' h' ∧ ∀ sz, own = some sz → OwnedR w.heap.size S' β' w' h' sz v
  | .pan pv h' => ∃ S' β' v, en = .panicked [{ v, recovered := false }] ∧ VR S' β' pv v ∧ Left (HOwn β h) S β w S' β' w' h'
  | .fail => False

def CallsOK (P : Program) (own : FuncId → Option Nat) (call : FuncId → List AV → M AV) : Prop :=
  ∀ (f : FuncId) (args : List AV) (h : Hp) (S : Stab) (β : List Blk) (w : World) (vs : List Value), call f args h ≠ .fail → GOK β h w → Wf S w → HeapX S β w h → VRs S β args vs →
    Calls P f vs.toArray w (CPost (own f) S β h w (call f args h)) ∧ (P.funcs[f]?).any (fun fn => fn.body.isSome && !(fn.name == "runtime.NumGoroutine")) = true

section
variable {c : Entry} {N : Nat} {U : Nat → Prop} {e : Env} {h : Hp} {a : Act} {w : World} {S : Stab} {β : List Blk} {γ : Nat → Value} {lam : Nat → Option Nat} {ω : Nat → Owner}

theorem FR.hown (H : FR c N U e h a w S β γ lam ω) {b : Nat} (hb : HOwn β h b) : ∃ l x, ω b = .heap l ∧ Row w b x ∧ β[l]? = some (b, x.size) ∧ ∀ o, S b o = none := by
  obtain ⟨l, cs, n, h1, h2, h3⟩ := hb
  obtain ⟨b', x, k1, k2, k3, k4, k5⟩ := H.heap l cs h1 h2
  rw [h3] at k1; cases k1
  exact ⟨l, x, k3, k2, h3, k5⟩

theorem FR.heapX (H : FR c N U e h a w S β γ lam ω) : HeapX S β w h := ⟨H.hlen, ω, H.heap⟩

open Classical in
/-- After a call. -/
theorem FR.left (H : FR c N U e h a w S β γ lam ω) {S' : Stab} {β' : List Blk} {w' : World} {h' : Hp} (L : Left (HOwn β h) S β w S' β' w' h') :
    ∃ ω', FR c N U e h' a w' S' β' γ lam ω' ∧ (∀ b, w.heap.size ≤ b → ¬ HOwn β' h' b → ω' b = .no) := by
  obtain ⟨hlen, ω2, hh⟩ := L.heap
  have hnb : ∀ b, ω b ≠ .no → (∀ l, ω b ≠ .heap l) → ¬ HOwn β h b ∧ ¬ HOwn β' h' b ∧ b < w.heap.size := by
    intro b hb hl
    have hlt := (H.mine b hb).2
    have h1 : ¬ HOwn β h b := fun ho => by obtain ⟨l, _, h3, _⟩ := H.hown ho; exact hl l h3
    refine ⟨h1, fun ho => ?_, hlt⟩
    rcases L.owned b ho with h2 | h2
    · exact h1 h2
    · omega
  let ω' : Nat → Owner := fun b => if HOwn β' h' b then ω2 b else match ω b with | .heap _ => .no | o => o
  have hω' : ∀ b, ω b ≠ .no → (∀ l, ω b ≠ .heap l) → ω' b = ω b := by
    intro b hb hl
    obtain ⟨_, h2, _⟩ := hnb b hb hl
    show (if HOwn β' h' b then ω2 b else _) = _
    rw [if_neg h2]
    cases ho : ω b <;> first | rfl | exact absurd ho (hl _)
  have hrow : ∀ {b x}, Row w b x → ω b ≠ .no → (∀ l, ω b ≠ .heap l) → Row w' b x ∧ ∀ o, S' b o = S b o := by
    intro b x hr hb hl
    obtain ⟨h1, _, h3⟩ := hnb b hb hl
    exact ⟨hr.of_eq (L.keep b h3 h1).1, (L.keep b h3 h1).2⟩
  refine ⟨ω', ⟨L.wf, H.gro.trans L.gro, fun b hb hE => ?_, Stab.le_trans H.le L.le, Ext.trans H.ext L.ext, hlen, ?_, H.tsz, ?_, H.grps, ?_, ?_, ?_, H.used⟩, ?_⟩
  · have h1 : ¬ HOwn β h b := fun ho => by
      obtain ⟨l, _, h3, _⟩ := H.hown ho
      rcases (H.mine b (by rw [h3]; simp)).1.low with h | h
      · exact hE h
      · omega
    have h2 := L.keep b (Nat.lt_of_lt_of_le hb H.size) h1
    have h3 := H.keep b hb hE
    exact ⟨h2.1.trans h3.1, fun o => (h2.2 o).trans (h3.2 o)⟩
  · intro l cs hl hne
    obtain ⟨b, x, h1, h2, h3, h4, h5⟩ := hh l cs hl hne
    refine ⟨b, x, h1, h2, ?_, h4, h5⟩
    show (if HOwn β' h' b then ω2 b else _) = _
    rw [if_pos ⟨l, cs, _, hl, hne, h1⟩]
    exact h3
  · intro t ht
    have := H.slots t ht
    cases hv : (e.get t).v with
    | val av => rw [hv] at this; exact VR.mono L.le L.ext _ _ this
    | loc B off => rw [hv] at this; exact this
  · intro B n hB
    obtain ⟨k1, k2, k3, b, x, k4, k5, k6, k7, k8⟩ := H.lblk B n hB
    have hr := hrow k5 (by rw [k6]; simp) (by rw [k6]; simp)
    refine ⟨k1, k2, k3, b, x, k4, hr.1, by rw [hω' b (by rw [k6]; simp) (by rw [k6]; simp)]; exact k6, fun o => by rw [hr.2]; exact k7 o, fun i hi => ?_⟩
    obtain ⟨v, a', g1, g2, g3, g4⟩ := k8 i hi
    exact ⟨v, a', g1, g2, VR.mono L.le L.ext _ _ g3, g4⟩
  · intro g z hg
    obtain ⟨a', len, cap, g1, g2, g3, g4⟩ := H.free g z hg
    refine ⟨a', len, cap, g1, g2, g3, g4.imp id ?_⟩
    rintro ⟨sz, b, off, x, k1, k2, k3, k4, k5, k6⟩
    have hr := hrow k3 (by rw [k5]; simp) (by rw [k5]; simp)
    exact ⟨sz, b, off, x, k1, k2, hr.1, k4, by rw [hω' b (by rw [k5]; simp) (by rw [k5]; simp)]; exact k5, fun o ho => by rw [hr.2]; exact k6 o ho⟩
  · intro b hb
    by_cases ho : HOwn β' h' b
    · have hlt : b < w'.heap.size ∧ ∃ l, ω2 b = .heap l := by
        obtain ⟨l, cs, n, h1, h2, h3⟩ := ho
        obtain ⟨b', x, k1, k2, k3, _⟩ := hh l cs h1 h2
        rw [h3] at k1; cases k1
        exact ⟨k2.lt, l, k3⟩
      obtain ⟨hlt, l2, hl2⟩ := hlt
      refine ⟨?_, hlt⟩
      rcases L.owned b ho with h1 | h1
      · obtain ⟨l, _, h3, _⟩ := H.hown h1
        refine (H.mine b (by rw [h3]; simp)).1.of_not fun g => ?_
        show (if HOwn β' h' b then ω2 b else _) ≠ _
        rw [if_pos ho, hl2]
        simp
      · exact .inr (Nat.le_trans H.size h1)
    · have hb' : (match ω b with | .heap _ => .no | o => o) ≠ Owner.no := by
        have : ω' b = (match ω b with | .heap _ => .no | o => o) := by
          show (if HOwn β' h' b then ω2 b else _) = _
          rw [if_neg ho]
        rw [← this]; exact hb
      have : ω b ≠ .no := by
        intro hn; rw [hn] at hb'; exact hb' rfl
      exact ⟨(H.mine b this).1.of_eq (hω' b this fun l hl => by rw [hl] at hb'; exact hb' rfl), Nat.lt_of_lt_of_le (H.mine b this).2 L.size⟩
  · intro b hb hn
    show (if HOwn β' h' b then ω2 b else _) = _
    rw [if_neg hn]
    cases ho : ω b with
    | no => rfl
    | heap l => rfl
    | loc B => have := (H.mine b (by rw [ho]; simp)).2; omega
    | grp g => have := (H.mine b (by rw [ho]; simp)).2; omega
end

/-- What is left of a frame for whoever called it. -/
theorem FR.gok {c : Entry} {N : Nat} {U : Nat → Prop} {e : Env} {h : Hp} {a : Act} {w : World} {S : Stab} {β : List Blk} {γ : Nat → Value} {lam : Nat → Option Nat} {ω : Nat → Owner} (H : FR c N U e h a w S β γ lam ω) : GOK β h w :=
  ⟨H.gokw, fun b hb ho => by
    obtain ⟨l, _, h3, _⟩ := H.hown ho
    rcases (H.mine b (by rw [h3]; simp)).1.low with h | h
    · exact c.gok.2 b hb h
    · have := c.gok.1.lt; omega⟩
def Out (c : Entry) (h' : Hp) (w' : World) (S' : Stab) (β' : List Blk) : Prop := Left c.E c.S c.β c.w S' β' w' h'

theorem FR.out {c : Entry} {N : Nat} {U : Nat → Prop} {e : Env} {h : Hp} {a : Act} {w : World} {S : Stab} {β : List Blk} {γ : Nat → Value} {lam : Nat → Option Nat} {ω : Nat → Owner}
    (H : FR c N U e h a w S β γ lam ω) : Out c h w S β :=
  ⟨H.le, H.ext, H.wf, H.gro, H.keep, H.heapX, fun b hb => by
    obtain ⟨l, _, h3, _⟩ := H.hown hb
    exact (H.mine b (by rw [h3]; simp)).1.low⟩

def Sat (c : Entry) (N : Nat) (U : Nat → Prop) (e : Env) (h : Hp) (a : Act) (w : World) : Prop := ∃ S β γ lam ω, FR c N U e h a w S β γ lam ω

/-- The numbers of groups that an operation may give. -/
def UG (U : Nat → Prop) (gid : Nat) : Nat → Prop := fun g => U g ∨ (gid ≤ g ∧ g < gid + 1000)
theorem FR.wider {c : Entry} {N : Nat} {U V : Nat → Prop} {e : Env} {h : Hp} {a : Act} {w : World} {S : Stab} {β : List Blk} {γ : Nat → Value} {lam : Nat → Option Nat} {ω : Nat → Owner}
    (H : FR c N U e h a w S β γ lam ω) (hUV : ∀ g, U g → V g) : FR c N V e h a w S β γ lam ω :=
  ⟨H.wf, H.gro, H.keep, H.le, H.ext, H.hlen, H.heap, H.tsz, H.slots, H.grps, H.lblk, H.free, H.mine, ⟨fun t g hg => hUV g (H.used.1 t g hg), fun g z hg => hUV g (H.used.2 g z hg)⟩⟩
theorem Sat.wider {c : Entry} {N : Nat} {U V : Nat → Prop} {e : Env} {h : Hp} {a : Act} {w : World} (H : Sat c N U e h a w) (hUV : ∀ g, U g → V g) : Sat c N V e h a w :=
  let ⟨S, β, γ, lam, ω, F⟩ := H; ⟨S, β, γ, lam, ω, F.wider hUV⟩

/-- A panic's value, and what is left. -/
def PanSat (c : Entry) (pv : AV) (h' : Hp) (v : Value) (w' : World) : Prop := ∃ S' β', Out c h' w' S' β' ∧ VR S' β' pv v

/-- What an operation has to lead to. -/
def After (P : Program) (c : Entry) (N : Nat) (U : Nat → Prop) (r : R Env) (o : Oper) (a : Act) (w : World) : Prop :=
  ∀ (next : Act → World → Prop) (Q : Exit → Act → World → Prop), (∀ e' h' a' w', r = .ok e' h' → Sat c N U e' h' a' w' → a'.defers = a.defers → next a' w') →
    (∀ pv h' v w', r = .pan pv h' → PanSat c pv h' v w' → Q (.panic [{ v, recovered := false }]) a w') → o.wp P a w next Q

omit [Dr] in
theorem put_defers (a : Act) (d : Option Tmp) (v : Value) : (a.put d v).defers = a.defers := by cases d <;> rfl

theorem After.val {P : Program} {c : Entry} {N : Nat} {U : Nat → Prop} {e' : Env} {h' : Hp} {o : Oper} {a : Act} {w w' : World} {v : Value}
    (hrun : (execOp a.eval o).run P w = .ok (.value v) w') (H : Sat c N U e' h' (a.put o.dst v) w') : After P c N U (.ok e' h') o a w := by
  intro next Q hn _
  unfold Oper.wp
  rw [hrun]
  exact hn e' h' _ _ rfl H (put_defers a o.dst v)

theorem After.skip {P : Program} {c : Entry} {N : Nat} {U : Nat → Prop} {e' : Env} {h' : Hp} {o : Oper} {a : Act} {w w' : World} (hd : o.dst = none)
    (hrun : (execOp a.eval o).run P w = .ok .skip w') (H : Sat c N U e' h' a w') : After P c N U (.ok e' h') o a w := by
  intro next Q hn _
  unfold Oper.wp
  rw [hrun]
  have : a.put o.dst undef = a := by rw [hd]; rfl
  simp only [Oper.upon]
  rw [this]
  exact hn e' h' _ _ rfl H rfl

end Go.Av

/- Rows that become immutable. No condition. -/
namespace Go.Av

mutual
theorem cl_ok {S S' : Stab} {β β' : List Blk} {g : Nat → Nat → Nat → Nat → Bool → AV} (hS : S.le S') (hg : ∀ l off len sz ag v, VR S β (.hs l off len sz ag) v → VR S' β' (g l off len sz ag) v) : (a : AV) → (v : Value) → VR S β a v → VR S' β' (cl g a) v
  | .any, _, _ => by simp [cl, VR]
  | .bool _, _, x => by simpa [cl, VR] using x
  | .int _ _, _, x => by simpa [cl, VR] using x
  | .str _, _, x => by simpa [cl, VR] using x
  | .nilp, _, x => by simpa [cl, VR] using x
  | .nilf, _, x => by simpa [cl, VR] using x
  | .nili, _, x => by simpa [cl, VR] using x
  | .agg cs, v, x => by
    simp only [cl, VR] at x ⊢
    obtain ⟨vs, rfl, y⟩ := x
    exact ⟨vs, rfl, cls_ok hS hg cs vs y⟩
  | .tup cs, v, x => by
    simp only [cl, VR] at x ⊢
    obtain ⟨vs, rfl, y⟩ := x
    exact ⟨vs, rfl, cls_ok hS hg cs vs y⟩
  | .sl es, v, x => by
    simp only [cl, VR] at x ⊢
    obtain ⟨a, cap, rfl, hc, hn, hq⟩ := x
    have hl : (cls g es).length = es.length := cls_length g es
    refine ⟨a, cap, by rw [hl], by rw [hl]; exact hc, hn, fun q e => ?_⟩
    obtain ⟨hs, sz, he⟩ := hq q e
    exact ⟨hs, sz, els_ok hS hg es _ _ _ he⟩
  | .ip cs, v, x => by
    simp only [cl, VR] at x ⊢
    obtain ⟨b, off, vs, rfl, y, z⟩ := x
    exact ⟨b, off, vs, rfl, cls_ok hS hg cs vs y, z.mono hS⟩
  | .hp l off, v, x => by simp [cl, VR]
  | .hn, v, x => by
    simp only [cl, VR] at x ⊢
    exact ⟨none, 0, x, Nat.le_refl _, fun _ => rfl, fun q hq => by cases hq⟩
  | .hs l off len sz ag, v, x => by
    simp only [cl]
    exact hg l off len sz ag v x
  | .fn f a c, v, x => by
    simp only [cl, VR] at x ⊢
    obtain ⟨x, y, rfl, hx, hy⟩ := x
    exact ⟨x, y, rfl, cls_ok hS hg a x hx, cls_ok hS hg c y hy⟩
  | .iface t a, v, x => by
    simp only [cl, VR] at x ⊢
    obtain ⟨y, rfl, hy⟩ := x
    exact ⟨y, rfl, cl_ok hS hg a y hy⟩
theorem cls_length (g : Nat → Nat → Nat → Nat → Bool → AV) : (cs : List AV) → (cls g cs).length = cs.length
  | [] => rfl
  | c :: cs => by simp [cls, cls_length g cs]
theorem cls_ok {S S' : Stab} {β β' : List Blk} {g : Nat → Nat → Nat → Nat → Bool → AV} (hS : S.le S') (hg : ∀ l off len sz ag v, VR S β (.hs l off len sz ag) v → VR S' β' (g l off len sz ag) v) : (cs : List AV) → (vs : List Value) → VRs S β cs vs → VRs S' β' (cls g cs) vs
  | [], _, x => by simpa [cls, VRs] using x
  | c :: cs, vs, x => by
    simp only [cls, VRs] at x ⊢
    obtain ⟨y, ys, rfl, hy, hys⟩ := x
    exact ⟨y, ys, rfl, cl_ok hS hg c y hy, cls_ok hS hg cs ys hys⟩
theorem els_ok {S S' : Stab} {β β' : List Blk} {g : Nat → Nat → Nat → Nat → Bool → AV} (hS : S.le S') (hg : ∀ l off len sz ag v, VR S β (.hs l off len sz ag) v → VR S' β' (g l off len sz ag) v) : (es : List AV) → (b off sz : Nat) → ElsAt S β es b off sz → ElsAt S' β' (cls g es) b off sz
  | [], _, _, _, _ => by simp [cls, ElsAt]
  | e :: es, b, off, sz, x => by
    simp only [cls, ElsAt] at x ⊢
    obtain ⟨⟨v, hv, hs, hc⟩, hes⟩ := x
    exact ⟨⟨v, cl_ok hS hg e v hv, hs, hc.mono hS⟩, els_ok hS hg es b (off + sz) sz hes⟩
end
variable [Dr]

omit [Dr] in
theorem clean_ok {S : Stab} {β : List Blk} {args : List AV} {vs : List Value} (h : VRs S β args vs) : VRs S [] (cls noHs args) vs :=
  cls_ok (Stab.le_refl S) (fun _ _ _ _ _ _ _ => by simp [noHs, VR]) args vs h

omit [Dr] in
theorem okCell_cells {S : Stab} {β : List Blk} {a : AV} {v : Value} (h : okCell a = true) (hv : VR S β a v) : v.cells = #[v] := by
  cases a <;> simp only [okCell, Bool.false_eq_true, reduceCtorEq] at h <;> simp only [VR] at hv
  case bool => subst hv; rfl
  case int => subst hv; rfl
  case str => obtain ⟨x, rfl, _⟩ := hv; rfl
  case nilp => subst hv; rfl
  case nilf => subst hv; rfl
  case nili => subst hv; rfl
  case sl => obtain ⟨x, c, rfl, _⟩ := hv; rfl
  case ip => obtain ⟨b, o, vs, rfl, _⟩ := hv; rfl
  case hp => obtain ⟨b, _, rfl⟩ := hv; rfl
  case hs => obtain ⟨b, c, _, rfl, _⟩ := hv; rfl
  case hn => subst hv; rfl
  case fn => obtain ⟨x, y, rfl, _⟩ := hv; rfl
  case iface => obtain ⟨x, rfl, _⟩ := hv; rfl

omit [Dr] in
theorem frz_ok {S S2 : Stab} {β β2 : List Blk} {w : World} {ω : Nat → Owner} {h : Hp} (hH : HeapR S β w ω h) (hS : S.le S2) (h2 : ∀ (b o : Nat) (x : Array Value), HOwn β h b → Row w b x → S2 b o = x[o]?) : ∀ (d : Nat) (a : AV) (v : Value), VR S β a v → VR S2 β2 (frz d h a) v
  | 0, a, v, hv => cl_ok hS (fun _ _ _ _ _ _ _ => by simp [noHs, VR]) a v hv
  | d + 1, a, v, hv => by
    refine cl_ok hS (fun l off len sz ag u hu => ?_) a v hv
    cases hl : h[l]? with
    | none => simp [VR]
    | some cs =>
      simp only
      cases hc : (decide (off + len * sz ≤ cs.length) && decide (0 < sz) && (ag || (Nat.beq sz 1 && cs.all okCell))) with
      | false => simp [VR]
      | true =>
        simp only [Bool.and_eq_true, decide_eq_true_eq, Bool.or_eq_true] at hc
        obtain ⟨⟨hc1, hc2⟩, hc3⟩ := hc
        simp only [cond_true]
        simp only [VR] at hu ⊢
        obtain ⟨⟨b, nb⟩, cap, hβ, rfl, hlc, hcn⟩ := hu
        refine ⟨some ⟨b, off, none⟩, cap, by simp, by simpa using hlc, (fun hh => by cases hh), fun q hq => ?_⟩
        simp only [Option.some.injEq] at hq
        subst hq
        refine ⟨rfl, sz, .of_get fun i e he => ?_⟩
        have hi : i < len := by
          rcases Nat.lt_or_ge i len with h' | h'
          · exact h'
          · rw [List.getElem?_eq_none (by simpa using h')] at he; cases he
        rw [List.getElem?_map, List.getElem?_range hi] at he
        simp only [Option.map_some, Option.some.injEq] at he
        have hile : off + i * sz + sz ≤ cs.length := by
          have : (i + 1) * sz ≤ len * sz := Nat.mul_le_mul_right _ hi
          rw [Nat.add_mul] at this
          omega
        have hne : cs ≠ [] := by rintro rfl; simp at hile; omega
        obtain ⟨b', x, k1, k2, k3, k4, k5⟩ := hH l cs hl hne
        rw [hβ] at k1
        simp only [Option.some.injEq, Prod.mk.injEq] at k1
        obtain ⟨rfl, rfl⟩ := k1
        have hx := k4.length
        simp only [List.length_take, Array.length_toList] at hx
        have hS2 : ∀ o, S2 b o = x[o]? := fun o => h2 b o x ⟨l, cs, _, hl, hne, hβ⟩ k2
        subst he
        cases ag with
        | true =>
          simp only [cond_true]
          have hsub := (k4.drop (off + i * sz)).take sz
          refine ⟨.agg (((x.toList.take cs.length).drop (off + i * sz)).take sz).toArray, frz_ok hH hS h2 d _ _ (by simp only [VR]; exact ⟨_, rfl, hsub⟩), ?_, fun j y hy => ?_⟩
          · simp [Value.cells]; omega
          · simp only [Value.cells] at hy
            rw [List.getElem?_take] at hy
            split at hy
            · rw [List.getElem?_drop, List.getElem?_take] at hy
              split at hy
              · rw [hS2]; simpa using hy
              · cases hy
            · cases hy
        | false =>
          simp only [cond_false]
          simp only [Bool.false_eq_true, false_or, Bool.and_eq_true] at hc3
          have hsz : sz = 1 := Nat.eq_of_beq_eq_true hc3.1
          subst hsz
          have hlt : off + i * 1 < cs.length := by omega
          have hcs : cs[off + i * 1]? = some (nth cs (off + i * 1)) := by unfold nth; rw [List.getD_eq_getElem?_getD, List.getElem?_eq_getElem hlt]; rfl
          obtain ⟨y, hy1, hy2⟩ := k4.get hcs
          have hok := List.all_eq_true.1 hc3.2 _ (List.mem_of_getElem? hcs)
          have hcells := okCell_cells hok hy2
          refine ⟨y, frz_ok hH hS h2 d _ _ hy2, by rw [hcells]; rfl, fun j z hz => ?_⟩
          rw [hcells] at hz
          cases j with
          | zero =>
            simp only [List.getElem?_cons_zero, Option.some.injEq] at hz
            subst hz
            rw [hS2, Nat.add_zero]
            rw [List.getElem?_take, if_pos hlt] at hy1
            rw [← hy1]
            simp
          | succ j => simp at hz


/-- Less may be told. -/
theorem FR.weak {c : Entry} {N : Nat} {U : Nat → Prop} {e e2 : Env} {h : Hp} {a : Act} {w : World} {S : Stab} {β : List Blk} {γ : Nat → Value} {lam : Nat → Option Nat} {ω : Nat → Owner} (H : FR c N U e h a w S β γ lam ω)
    (hv : ∀ t, (e2.get t).v = (e.get t).v ∨ (e2.get t).v = .val .any ∧ t < 1000) (hg : ∀ t g, (e2.get t).g = some g → (e.get t).g = some g)
    (hal : ∀ g z, aliveG e2.al g = some z → aliveG e.al g = some z) (hlb : ∀ B n, lbSize e2.lb B = some n → lbSize e.lb B = some n) : FR c N U e2 h a w S β γ lam ω := by
  refine ⟨H.wf, H.gro, H.keep, H.le, H.ext, H.hlen, H.heap, H.tsz, fun t ht => ?_, fun t g z ht hgg hz => H.grps t g z ht (hg t g hgg) (hal g z hz), fun B n hB => ?_, fun g z hz => H.free g z (hal g z hz), H.mine, ⟨fun t g hgg => H.used.1 t g (hg t g hgg), fun g z hz => H.used.2 g z (hal g z hz)⟩⟩
  · rcases hv t with h1 | ⟨h1, _⟩
    · rw [h1]; exact H.slots t ht
    · rw [h1]; simp [SlotR, VR]
  · obtain ⟨h1, h2, h3, b, x, h4, h5, h6, h7, h8⟩ := H.lblk B n (hlb B n hB)
    refine ⟨h1, h2, h3, b, x, h4, h5, h6, h7, fun i hi => ?_⟩
    obtain ⟨v, a', g1, g2, g3, g4⟩ := h8 i hi
    refine ⟨v, a', g1, ?_, g3, fun g z hgg hz => g4 g z (hg _ g hgg) (hal g z hz)⟩
    rcases hv (B + i) with k1 | ⟨_, k1⟩
    · rw [k1]; exact g2
    · omega

theorem FR.acts {c : Entry} {N : Nat} {U : Nat → Prop} {e : Env} {h : Hp} {a a2 : Act} {w : World} {S : Stab} {β : List Blk} {γ : Nat → Value} {lam : Nat → Option Nat} {ω : Nat → Owner} (H : FR c N U e h a w S β γ lam ω) (ht : a2.tmps = a.tmps) : FR c N U e h a2 w S β γ lam ω :=
  ⟨H.wf, H.gro, H.keep, H.le, H.ext, H.hlen, H.heap, by rw [ht]; exact H.tsz, fun t h => by rw [ht]; exact H.slots t h, fun t g z h => by rw [ht]; exact H.grps t g z h, H.lblk, H.free, H.mine, H.used⟩

open Classical in
/-- All rows of the heap become immutable. -/
theorem FR.freeze {c : Entry} {N : Nat} {U : Nat → Prop} {e : Env} {h : Hp} {a : Act} {w : World} {S : Stab} {β : List Blk} {γ : Nat → Value} {lam : Nat → Option Nat} {ω : Nat → Owner} (H : FR c N U e h a w S β γ lam ω) :
    ∃ S2 ω2, FR c N U e (h.map fun _ => []) a w S2 β γ lam ω2 ∧ ∀ v u, VR S β v u → VR S2 β (frz 6 h v) u := by
  let S2 : Stab := fun b o => if HOwn β h b then w.cell? ⟨b, o, none⟩ else S b o
  let ω2 : Nat → Owner := fun b => if HOwn β h b then .no else ω b
  have hn : ∀ b, ¬ HOwn β h b → ∀ o, S2 b o = S b o := fun b hb o => if_neg hb
  have hy : ∀ b, HOwn β h b → ∀ o, S2 b o = w.cell? ⟨b, o, none⟩ := fun b hb o => if_pos hb
  have hωn : ∀ b, ¬ HOwn β h b → ω2 b = ω b := fun b hb => if_neg hb
  have hωy : ∀ b, HOwn β h b → ω2 b = .no := fun b hb => if_pos hb
  have hho : ∀ b, HOwn β h b → ∃ l, ω b = .heap l := fun b hb => by obtain ⟨l, _, h1, _⟩ := H.hown hb; exact ⟨l, h1⟩
  have hno : ∀ b, (∀ l, ω b ≠ .heap l) → ¬ HOwn β h b := fun b hb ho => by obtain ⟨l, hl⟩ := hho b ho; exact hb l hl
  have hle : S.le S2 := by
    intro b o v hv
    by_cases hb : HOwn β h b
    · obtain ⟨l, x, _, _, _, h5⟩ := H.hown hb
      rw [h5] at hv; cases hv
    · rw [hn b hb]; exact hv
  have hwf : Wf S2 w := by
    intro b o v hv
    by_cases hb : HOwn β h b
    · rw [hy b hb] at hv; exact hv
    · rw [hn b hb] at hv; exact H.wf b o v hv
  refine ⟨S2, ω2, ⟨hwf, H.gro, fun b hb hE => ⟨(H.keep b hb hE).1, fun o => ?_⟩, Stab.le_trans H.le hle, H.ext, by simp [H.hlen], fun l cs hl hcs => ?_, H.tsz, fun t ht => ?_, H.grps, fun B n hB => ?_, fun g z hg => ?_, fun b hb => ?_, H.used⟩, fun v u hv => ?_⟩
  · have : ¬ HOwn β h b := fun ho => by
      obtain ⟨l, hl⟩ := hho b ho
      rcases (H.mine b (by rw [hl]; simp)).1.low with h1 | h1
      · exact hE h1
      · omega
    rw [hn b this]
    exact (H.keep b hb hE).2 o
  · rw [List.getElem?_map] at hl
    cases hq : h[l]? with
    | none => rw [hq] at hl; cases hl
    | some x => rw [hq] at hl; simp at hl; exact absurd hl (fun hh => hcs hh)
  · have := H.slots t ht
    cases hv : (e.get t).v with
    | val av => rw [hv] at this; exact VR.mono hle (Ext.refl β) _ _ this
    | loc B off => rw [hv] at this; exact this
  · obtain ⟨h1, h2, h3, b, x, h4, h5, h6, h7, h8⟩ := H.lblk B n hB
    have hb := hno b (fun l hl => by rw [h6] at hl; cases hl)
    refine ⟨h1, h2, h3, b, x, h4, h5, by rw [hωn b hb]; exact h6, fun o => by rw [hn b hb]; exact h7 o, fun i hi => ?_⟩
    obtain ⟨v, a', g1, g2, g3, g4⟩ := h8 i hi
    exact ⟨v, a', g1, g2, VR.mono hle (Ext.refl β) _ _ g3, g4⟩
  · obtain ⟨a', len, cap, h1, h2, h3, h4⟩ := H.free g z hg
    refine ⟨a', len, cap, h1, h2, h3, h4.imp id ?_⟩
    rintro ⟨sz, b, off, x, g1, g2, g3, g4, g5, g6⟩
    have hb := hno b (fun l hl => by rw [g5] at hl; cases hl)
    exact ⟨sz, b, off, x, g1, g2, g3, g4, by rw [hωn b hb]; exact g5, fun o ho => by rw [hn b hb]; exact g6 o ho⟩
  · by_cases ho : HOwn β h b
    · exact absurd (hωy b ho) hb
    · have hb' : ω b ≠ .no := by rw [← hωn b ho]; exact hb
      exact ⟨(H.mine b hb').1.of_eq (hωn b ho), (H.mine b hb').2⟩
  · exact frz_ok H.heap hle (fun b o x hb hr => by rw [hy b hb, hr.cell]) 6 v u hv

theorem freeze_sat {c : Entry} {N : Nat} {U : Nat → Prop} {e : Env} {h : Hp} {a : Act} {w : World} {gid : Nat} {d : Option Tmp} {u : Upd} (hd : ∀ t, d = some t → t < N) (hs : Shape e gid {} none u)
    (H : Sat c N U (e.upd d u) h a w) : Sat c N U (e.upd d (.ofV (frz 6 h u.ent.av))) (h.map fun _ => []) a w := by
  obtain ⟨S, β, γ, lam, ω, F⟩ := H
  obtain ⟨S2, ω2, F2, hf⟩ := F.freeze
  have h1 := hs.ls rfl
  have h2 := hs.lb rfl
  have h3 := hs.unlb rfl
  have h4 := hs.noad rfl
  have h5 := hs.nodr rfl
  have hget : ∀ t, (e.upd d u).get t = if d = some t then u.ent else e.get t := fun t => by rw [get_upd, h1]; rfl
  have hget' : ∀ x t, (e.upd d (.ofV x)).get t = if d = some t then ⟨.val x, none⟩ else e.get t := fun x t => by rw [get_upd]; rfl
  have hal : (e.upd d u).al = e.al := by show u.add ++ dropO e.al u.drop = e.al; rw [h4, h5]; rfl
  have hlb : (e.upd d u).lb = e.lb := by show addO (dropLb e.lb u.unlb) u.lb = e.lb; rw [h2, h3]; rfl
  -- first forget the slot, then tell it anew
  have F3 : FR c N U (e.upd d (.ofV .any)) (h.map fun _ => []) a w S2 β γ lam ω2 := by
    refine F2.weak (fun t => ?_) (fun t g hg => ?_) (fun g z hz => by rw [hal]; exact hz) (fun B n hB => by rw [hlb]; exact hB)
    · rw [hget, hget']
      split
      · rename_i hdt
        exact .inr ⟨rfl, by have h1 := hd t hdt; have h2 := F.tsz.2; exact Nat.lt_of_lt_of_le h1 h2⟩
      · exact .inl rfl
    · rw [hget'] at hg
      rw [hget]
      split at hg
      · cases hg
      · rename_i hdt; rw [if_neg hdt]; exact hg
  cases d with
  | none => exact ⟨S2, β, γ, lam, ω2, F3⟩
  | some s =>
    have hsl := F.slots s (Nat.lt_of_lt_of_le (hd s rfl) F.tsz.2)
    rw [hget, if_pos rfl] at hsl
    generalize hv0 : a.tmps.getD s undef = v0 at hsl
    have hvr : VR S β u.ent.av v0 := by
      unfold Ent.av
      cases hv : u.ent.v with
      | val x => rw [hv] at hsl; exact hsl
      | loc B off => simp [VR]
    have F4 := F3.setV (d := some s) hd (hf _ _ hvr)
    refine ⟨S2, β, γ, lam, ω2, (F4.weak (e2 := e.upd (some s) (.ofV (frz 6 h u.ent.av))) (fun t => .inl ?_) (fun t g hg => ?_) (fun g z hz => hz) (fun B n hB => hB)).acts ?_⟩
    · rw [hget', get_upd]
      split
      · rfl
      · rename_i hdt
        show (e.get t).v = (lookE ((s, ⟨.val .any, none⟩) :: e.sl) t).v
        rw [lookE_cons, if_neg (fun hh => hdt (by rw [hh]))]
        rfl
    · rw [hget'] at hg
      rw [get_upd]
      split at hg
      · cases hg
      · rename_i hdt
        rw [if_neg hdt]
        show (lookE ((s, ⟨.val .any, none⟩) :: e.sl) t).g = some g
        rw [lookE_cons, if_neg (fun hh => hdt (by rw [hh]))]
        exact hg
    · have hlt : s < a.tmps.size := Nat.lt_of_lt_of_le (hd s rfl) F.tsz.1
      simp only [Act.put]
      rw [← hv0, Array.getD_eq_getD_getElem?, Array.getElem?_eq_getElem hlt]
      apply Array.ext_getElem?
      intro i
      rw [Array.getElem?_setIfInBounds]
      split
      · rename_i hi
        subst hi
        rw [Array.getElem?_eq_getElem hlt]
        rfl
      · rfl
end Go.Av

/- One operation: each kind. Conditions: the table of types is the program's; the calls are right. -/
namespace Go.Av
variable [Dr]

section
variable {P : Program} {cx : Cx} {c : Entry} {N : Nat} {U : Nat → Prop} {e : Env} {h : Hp} {a : Act} {w : World} {S : Stab} {β : List Blk} {γ : Nat → Value} {lam : Nat → Option Nat} {ω : Nat → Owner} {o : Oper} {gid : Nat}

theorem opnd_ok (H : FR c N U e h a w S β γ lam ω) (x : Operand) (ht : ∀ t, x = .tmp t → t < 1000) : VR S β (opnd e x) (a.eval x) := by
  cases x with
  | tmp t =>
    have := H.slots t (ht t rfl)
    simp only [opnd, Env.av, Ent.av, Act.eval]
    cases hv : (e.get t).v with
    | val av => rw [hv] at this; exact this
    | loc B off => simp [VR]
  | const v => exact VR_cA S β v
  | global g => simp [opnd, VR]
  | func f => simp only [opnd, VR, Act.eval]; exact ⟨[], [], rfl, by simp [VRs], by simp [VRs]⟩

theorem opnds_ok (H : FR c N U e h a w S β γ lam ω) : (xs : List Operand) → (∀ x ∈ xs, ∀ t, x = .tmp t → t < 1000) → VRs S β (xs.map (opnd e)) (xs.map a.eval)
  | [], _ => by simp [VRs]
  | x :: xs, ht => by
    simp only [List.map_cons, VRs]
    exact ⟨_, _, rfl, opnd_ok H x (ht x (by simp)), opnds_ok H xs fun y hy => ht y (by simp [hy])⟩

theorem optR_ok (H : FR c N U e h a w S β γ lam ω) (x : Option Operand) (ht : ∀ y, x = some y → ∀ t, y = .tmp t → t < 1000) : OptR S β (x.map (opnd e)) (x.map a.eval) := by
  cases x with
  | none => rfl
  | some y => exact ⟨_, rfl, opnd_ok H y (ht y rfl)⟩

theorem Sat.up (H : Sat c N U e h a w) : Sat c N (UG U gid) e h a w := H.wider fun _ h => .inl h

/-- An operation that computes a value. -/
theorem pure_op (H : FR c N U e h a w S β γ lam ω) (hd : ∀ t, o.dst = some t → t < N) {r : Option AV} {m : Sem Value} (hrun : execOp a.eval o = (do pure (.value (← m)))) (hp : ∀ x, r = some x → Pur P w S β m x)
    (hr : (bnd (lft r) fun v => M.pure (e.upd o.dst (.ofV v))) h ≠ .fail) : After P c N (UG U gid) ((bnd (lft r) fun v => M.pure (e.upd o.dst (.ofV v))) h) o a w := by
  cases r with
  | none => exact absurd rfl hr
  | some x =>
    obtain ⟨v, h1, h2⟩ := hp x rfl
    exact After.val (v := v) (w' := w) (by rw [hrun]; simp only [Sem.run_bind, h1, Result.andThen_ok, Sem.run_pure]) (Sat.up ⟨S, β, γ, lam, ω, H.setV hd h2⟩)

/-- An operation that copies an entry. -/
theorem copy_op (H : FR c N U e h a w S β γ lam ω) (hd : ∀ t, o.dst = some t → t < N) {t : Nat} (ht : t < 1000) (hrun : (execOp a.eval o).run P w = .ok (.value (a.tmps.getD t undef)) w) :
    After P c N (UG U gid) (.ok (e.upd o.dst { ent := e.get t }) h) o a w :=
  After.val hrun (Sat.up ⟨S, β, γ, lam, ω, H.set hd (H.slots t ht) (fun g z hg hz => H.grps t g z ht hg hz) (fun g hg => H.used.1 t g hg)⟩)

theorem move_op (H : FR c N U e h a w S β γ lam ω) (hd : ∀ t, o.dst = some t → t < N) (hU : ∀ g, gid ≤ g → g < gid + 1000 → ¬ U g) {x : Operand} (hx : o.op = .move x ∨ o.op = .assign x) (ht : ∀ t, x = .tmp t → t < 1000) :
    After P c N (UG U gid) (runOp cx e gid o h) o a w := by
  have hrun : (execOp a.eval o).run P w = .ok (.value (a.eval x)) w := by rcases hx with hx | hx <;> simp [execOp, hx]
  have hop : runOp cx e gid o = runAct e o.dst (opMove (memO cx.ann.hb o.dst) e gid x) := by unfold runOp opD; rcases hx with hx | hx <;> rw [hx]
  rw [hop]
  unfold opMove
  cases x with
  | tmp t => exact copy_op H hd (ht t rfl) hrun
  | const v =>
    simp only
    cases hn : isNilConst (.const v) with
    | true =>
      have hv : v = .slice none 0 0 := by
        unfold isNilConst at hn
        split at hn
        · rename_i hq; simpa using hq
        · simp at hn
      subst hv
      simp only [cond_true]
      cases htold : memO cx.ann.hb o.dst with
      | true => exact After.val hrun (Sat.up ⟨S, β, γ, lam, ω, H.setV hd (by simp only [VR]; rfl)⟩)
      | false =>
      simp only [cond_false]
      obtain ⟨ω', F⟩ := H.own (v := .slice none 0 0) (r := .sl []) (z := none) hd (by simp only [VR]; exact ⟨none, 0, rfl, Nat.le_refl _, fun _ => rfl, fun q h => by cases h⟩) hU (.inl ⟨none, 0, rfl, fun _ => rfl⟩)
      exact After.val hrun ⟨S, β, _, lam, ω', F⟩
    | false =>
      simp only [cond_false]
      exact After.val hrun (Sat.up ⟨S, β, γ, lam, ω, H.setV hd (opnd_ok H _ (fun t h => by cases h))⟩)
  | global g =>
    exact After.val hrun (Sat.up ⟨S, β, γ, lam, ω, H.setV hd (opnd_ok H _ (fun t h => by cases h))⟩)
  | func f =>
    exact After.val hrun (Sat.up ⟨S, β, γ, lam, ω, H.setV hd (opnd_ok H _ (fun t h => by cases h))⟩)

omit [Dr] in
/-- An operation that opens a group with its result; the world has grown by a row, or not. -/
theorem VRs.allR {S : Stab} {β : List Blk} {cs : List AV} {vs : List Value} (h : VRs S β cs vs) : ∀ i, i < cs.length → ∃ v, vs[i]? = some v ∧ VR S β (nth cs i) v := by
  intro i hi
  obtain ⟨v, h1, h2⟩ := h.get (List.getElem?_eq_getElem hi)
  refine ⟨v, h1, ?_⟩
  unfold nth
  rw [List.getD_eq_getElem?_getD, List.getElem?_eq_getElem hi]
  exact h2

theorem partsR_ok (H : FR c N U e h a w S β γ lam ω) : (ps : List (Nat × Operand)) → (∀ p ∈ ps, ∀ t, p.2 = .tmp t → t < 1000) → PartsR S β (ps.map fun p => (p.1, opnd e p.2)) (ps.map fun p => (p.1, a.eval p.2))
  | [], _ => rfl
  | (i, x) :: ps, ht => by
    simp only [List.map_cons, PartsR]
    exact ⟨_, _, rfl, opnd_ok H x (ht (i, x) (by simp)), partsR_ok H ps fun q hq => ht q (by simp [hq])⟩

theorem buildSlice_op (hT : TOK P cx.T) (H : FR c N U e h a w S β γ lam ω) (hd : ∀ t, o.dst = some t → t < N) (hU : ∀ g, gid ≤ g → g < gid + 1000 → ¬ U g) {t n : Nat} {ps : Array (Nat × Operand)} (ho : o.op = .buildSlice t n ps)
    (ht : ∀ p ∈ ps.toList, ∀ t, p.2 = .tmp t → t < 1000) (hr : runOp cx e gid o h ≠ .fail) : After P c N (UG U gid) (runOp cx e gid o h) o a w := by
  unfold runOp opD at hr ⊢
  rw [ho] at hr ⊢
  simp only at hr ⊢
  cases hb : buildSliceA cx.T t n (ps.toList.map fun p => (p.1, opnd e p.2)) with
  | none => rw [hb] at hr; exact absurd rfl hr
  | some r =>
    obtain ⟨es, x, el, sz, rfl, hlen, hrow, hrun⟩ := buildSlice_ok (w := w) (qs := ps.map fun p => (p.1, a.eval p.2)) hT hb (by simpa using partsR_ok H ps.toList ht)
    have H2 := H.allocS x el x.size
    have hv : VR (S.withRowTo w.heap.size x.size x) β (.sl es) (.slice (some ⟨w.heap.size, 0, none⟩) n n) := by
      simp only [VR]
      refine ⟨_, n, by rw [hlen], by omega, (fun h => by cases h), fun q hq => ?_⟩
      simp only [Option.some.injEq] at hq; subst hq
      refine ⟨rfl, sz, hrow.at (fun k o v hv => ?_) (fun o y hy => ?_)⟩
      · unfold Stab.withRowTo
        split
        · rename_i hk; subst hk; rw [H.wf.none (Nat.le_refl _)] at hv; simp at hv
        · exact hv
      · unfold Stab.withRowTo
        rw [if_pos rfl, if_pos]
        · exact hy
        · rcases Nat.lt_or_ge o x.size with h | h
          · exact h
          · rw [Array.getElem?_eq_none h] at hy; simp at hy
    have hex : (execOp a.eval o).run P w = .ok (.value (.slice (some ⟨w.heap.size, 0, none⟩) n n)) (w.alloc (.cells x el)) := by
      simp only [execOp, ho, Sem.run_bind, hrun, Result.andThen_ok, Sem.run_pure]
    simp only [runAct, lft, bnd, M.pure]
    cases hno : memO cx.ann.no o.dst with
    | true =>
      simp only [cond_true]
      exact After.val hex (Sat.up ⟨_, _, _, _, _, H2.setV hd hv⟩)
    | false =>
      simp only [cond_false]
      obtain ⟨ω', F⟩ := H2.own (z := none) hd hv hU (.inl ⟨_, _, rfl, fun h => by cases h⟩)
      exact After.val hex ⟨_, _, _, _, ω', F⟩

theorem makeSlice_op (hT : TOK P cx.T) (H : FR c N U e h a w S β γ lam ω) (hd : ∀ t, o.dst = some t → t < N) (hU : ∀ g, gid ≤ g → g < gid + 1000 → ¬ U g) {t : Nat} {l k : Operand} (ho : o.op = .makeSlice t l k)
    (hl : ∀ t, l = .tmp t → t < 1000) (hk : ∀ t, k = .tmp t → t < 1000) (hr : runOp cx e gid o h ≠ .fail) : After P c N (UG U gid) (runOp cx e gid o h) o a w := by
  unfold runOp opD at hr ⊢
  rw [ho] at hr ⊢
  simp only at hr ⊢
  cases hb : makeSliceA cx.T t (opnd e l) (opnd e k) with
  | none => rw [hb] at hr; exact absurd rfl hr
  | some r =>
    obtain ⟨es, x, el, sz, cap, rfl, hes, hlen, hxs, hrow, hrun⟩ := makeSlice_ok (w := w) hT hb (opnd_ok H l hl) (opnd_ok H k hk)
    have H2 := H.allocS x el (es.length * sz)
    have hle : es.length * sz ≤ cap * sz := Nat.mul_le_mul_right _ hlen
    have hv : VR (S.withRowTo w.heap.size (es.length * sz) x) β (.sl es) (.slice (some ⟨w.heap.size, 0, none⟩) es.length cap) := by
      simp only [VR]
      refine ⟨_, cap, rfl, hlen, (fun h => by cases h), fun q hq => ?_⟩
      simp only [Option.some.injEq] at hq; subst hq
      refine ⟨rfl, sz, .of_get fun i y hy => ?_⟩
      obtain ⟨v, v1, v2, v3⟩ := hrow i y hy
      have hi : i < es.length := by
        rcases Nat.lt_or_ge i es.length with h | h
        · exact h
        · rw [List.getElem?_eq_none h] at hy; simp at hy
      have hm : (i + 1) * sz ≤ es.length * sz := Nat.mul_le_mul_right _ hi
      rw [Nat.add_mul] at hm
      refine ⟨v, VR.mono (fun k o v hv => ?_) (Ext.refl β) _ _ v1, v2, fun j u hu => ?_⟩
      · unfold Stab.withRowTo
        split
        · rename_i hk; subst hk; rw [H.wf.none (Nat.le_refl _)] at hv; simp at hv
        · exact hv
      · have hj : j < sz := by
          rcases Nat.lt_or_ge j v.cells.toList.length with h | h
          · simp [v2] at h; exact h
          · rw [List.getElem?_eq_none h] at hu; simp at hu
        unfold Stab.withRowTo
        rw [if_pos rfl, if_pos (Nat.lt_of_lt_of_le (show 0 + i * sz + j < i * sz + 1 * sz by omega) hm), Nat.zero_add]
        exact v3 j u (by simpa using hu)
    have hωn : ω w.heap.size = .no := by
      cases hoo : ω w.heap.size with
      | no => rfl
      | _ => have := (H.mine w.heap.size (by rw [hoo]; simp)).2; omega
    obtain ⟨ω', F⟩ := H2.own (z := elemSize cx.T t) hd hv hU (.inr ⟨es.length, cap, sz, w.heap.size, 0, x, rfl, hlen, hes, Row.new w x el, by omega, hωn, H.size, fun o' ho' => by
      unfold Stab.withRowTo; rw [if_pos rfl, if_neg (by omega)]⟩)
    refine After.val (v := .slice (some ⟨w.heap.size, 0, none⟩) es.length cap) (w' := w.alloc (.cells x el)) ?_ ⟨_, _, _, _, ω', F⟩
    simp only [execOp, ho, Sem.run_bind, hrun, Result.andThen_ok, Sem.run_pure]

theorem slice_op (hT : TOK P cx.T) (H : FR c N U e h a w S β γ lam ω) (hd : ∀ t, o.dst = some t → t < N) (hU : ∀ g, gid ≤ g → g < gid + 1000 → ¬ U g) {t : Nat} {x : Operand} {lo hi mx : Option Operand} (ho : o.op = .slice t x lo hi mx)
    (hx : ∀ t, x = .tmp t → t < 1000) (hlo : ∀ y, lo = some y → ∀ t, y = .tmp t → t < 1000) (hhi : ∀ y, hi = some y → ∀ t, y = .tmp t → t < 1000) (hmx : ∀ y, mx = some y → ∀ t, y = .tmp t → t < 1000)
    (hr : runOp cx e gid o h ≠ .fail) : After P c N (UG U gid) (runOp cx e gid o h) o a w := by
  unfold runOp opD at hr ⊢
  rw [ho] at hr ⊢
  simp only at hr ⊢
  cases hb : sliceA cx.T t (opnd e x) (lo.map (opnd e)) (hi.map (opnd e)) (mx.map (opnd e)) with
  | none => rw [hb] at hr; exact absurd rfl hr
  | some r =>
    obtain ⟨v, hrun, hv, hown⟩ := slice_ok (P := P) (w := w) hT hb (opnd_ok H x hx) (optR_ok H lo hlo) (optR_ok H hi hhi) (optR_ok H mx hmx)
    have hrun' : (execOp a.eval o).run P w = .ok (.value v) w := by simp only [execOp, ho, Sem.run_bind, hrun, Result.andThen_ok, Sem.run_pure]
    cases mx with
    | none => exact After.val hrun' (Sat.up ⟨S, β, γ, lam, ω, H.setV hd hv⟩)
    | some m =>
      obtain ⟨⟨ad, n, rfl⟩, es, rfl⟩ := hown rfl
      have hn : ad = none → n = 0 := by
        rintro rfl
        have hv := hv
        simp only [VR] at hv
        obtain ⟨_, _, he, _, h2, _⟩ := hv
        simp only [Value.slice.injEq] at he
        obtain ⟨rfl, _, rfl⟩ := he
        exact h2 rfl
      obtain ⟨ω', F⟩ := H.own (z := none) hd hv hU (.inl ⟨ad, n, rfl, hn⟩)
      exact After.val hrun' ⟨_, _, _, _, ω', F⟩
end
end Go.Av

/- One operation: memory. Conditions: the table of types is the program's; the calls are right. -/
namespace Go.Av
variable [Dr]

section
variable {P : Program} {cx : Cx} {c : Entry} {N : Nat} {U : Nat → Prop} {e : Env} {h : Hp} {a : Act} {w : World} {S : Stab} {β : List Blk} {γ : Nat → Value} {lam : Nat → Option Nat} {ω : Nat → Owner} {o : Oper} {gid : Nat}

/-- The cells of a local block. -/
theorem FR.locals (H : FR c N U e h a w S β γ lam ω) {B off n : Nat} (hin : inLb e B off n = true) : ∃ b x m, lbSize e.lb B = some m ∧ off + n ≤ m ∧ lam B = some b ∧ Row w b x ∧ m ≤ x.size ∧
    ∀ i, i < n → ∃ v a', x[off + i]? = some v ∧ (e.get (B + off + i)).v = .val a' ∧ VR S β a' v ∧ ∀ g z, (e.get (B + off + i)).g = some g → aliveG e.al g = some z → v = γ g := by
  unfold inLb at hin
  split at hin
  · rename_i m hm
    have hle : off + n ≤ m := by simp at hin; exact hin.1
    obtain ⟨_, _, _, b, x, h1, h2, h3, h4, h5⟩ := H.lblk B m hm
    have hms : m ≤ x.size := by
      rcases Nat.eq_zero_or_pos m with h0 | h0
      · omega
      · obtain ⟨v, _, hv, _⟩ := h5 (m - 1) (by omega)
        rcases Nat.lt_or_ge (m - 1) x.size with h | h
        · omega
        · rw [Array.getElem?_eq_none h] at hv; simp at hv
    refine ⟨b, x, m, hm, hle, h1, h2, hms, fun i hi => ?_⟩
    have := h5 (off + i) (by omega)
    rw [← Nat.add_assoc] at this
    exact this
  · simp at hin

omit [Dr] in
theorem getLs_ok {S : Stab} {β : List Blk} {e : Env} {B : Nat} {f : Nat → Value} : (n : Nat) → (∀ i, i < n → VR S β (e.av (B + i)) (f i)) → VRs S β (getLs e B n) ((List.range n).map f)
  | 0, _ => by simp [getLs, VRs]
  | n + 1, hh => by
    simp only [getLs, List.range_succ, List.map_append, List.map_cons, List.map_nil]
    refine VRs.append (getLs_ok n fun i hi => hh i (by omega)) ?_
    simp only [VRs]
    exact ⟨_, _, rfl, hh n (by omega), rfl⟩

omit [Dr] in
theorem loadVar_row (hT : TOK P cx.T) {t : Nat} {ti : TI} (ht : cx.T t = some ti) {b off : Nat} {x : Array Value} (hr : Row w b x) (f : Nat → Value) (hf : ∀ i, i < ti.size → x[off + i]? = some (f i)) :
    (ti.agg = true → (loadVar t ⟨b, off, none⟩).run P w = .ok (.agg ((List.range ti.size).map f).toArray) w) ∧ (ti.agg = false → ti.size = 1 → (loadVar t ⟨b, off, none⟩).run P w = .ok (f 0) w) := by
  obtain ⟨ii, d, _, hii, hd, _, _, hsz, _, _, hag, _⟩ := (hT.get ht).ex
  refine ⟨fun hagg => ?_, fun hagg hone => ?_⟩
  · have := run_loadCells (P := P) w ⟨b, off, none⟩ ti.size f (fun j hj => by rw [addr_add, hr.cell]; exact hf j hj)
    simp [loadVar, run_isAgg hd, hag, hagg, run_sizeOf hii, hsz, this]
  · have h0 := hf 0 (by omega)
    rw [← hr.cell] at h0
    simp only [Nat.add_zero] at h0
    simp [loadVar, run_isAgg hd, hag, hagg, h0]

omit [Dr] in
theorem loadH_ne {T : TT} {t : Nat} {x : AV} {h : Hp} (hx : ∀ l off, x ≠ .hp l off) : loadH T t x h = match loadA T t x with | some v => .ok v h | none => .fail := by
  unfold loadH
  cases x <;> first | rfl | exact absurd rfl (hx _ _)

theorem load_op (hT : TOK P cx.T) (H : FR c N U e h a w S β γ lam ω) (hd : ∀ t, o.dst = some t → t < N) {t p : Nat} (ho : o.op = .load t (.tmp p)) (hx : p < 1000) (hr : runAct e o.dst (opLoad cx e o.dst t p) h ≠ .fail) :
    After P c N (UG U gid) (runAct e o.dst (opLoad cx e o.dst t p) h) o a w := by
  have hp := H.slots p hx
  unfold opLoad at hr ⊢
  cases hv : (e.get p).v with
  | loc B off =>
    rw [hv] at hr hp
    simp only at hr ⊢
    simp only [SlotR] at hp
    obtain ⟨b, hlam, hpv⟩ := hp
    cases ht : cx.T t with
    | none => rw [ht] at hr; exact absurd rfl hr
    | some ti =>
      rw [ht] at hr
      simp only at hr ⊢
      cases hin : inLb e B off ti.size with
      | false => rw [hin] at hr; exact absurd rfl hr
      | true =>
        rw [hin] at hr
        simp only [cond_true] at hr ⊢
        obtain ⟨b', x, m, hm, hle, hlam', hrow, hms, hcells⟩ := H.locals hin
        rw [hlam] at hlam'; cases hlam'
        let f : Nat → Value := fun i => (x[off + i]?).getD undef
        have hf : ∀ i, i < ti.size → x[off + i]? = some (f i) := fun i hi => by
          obtain ⟨v, _, hv', _⟩ := hcells i hi
          show _ = some ((x[off + i]?).getD undef)
          rw [hv']; rfl
        have hload := loadVar_row hT ht hrow f hf
        have hexec : ∀ v, (loadVar t ⟨b, off, none⟩).run P w = .ok v w → (execOp a.eval o).run P w = .ok (.value v) w := fun v hv' => by
          simp only [execOp, ho, Act.eval, hpv, Instr.loadAt, Instr.sureAddr, Sem.run_bind, Sem.run_pure, Result.andThen_ok, hv']
        cases hag : ti.agg with
        | true =>
          simp only [cond_true]
          refine After.val (hexec _ (hload.1 hag)) (Sat.up ⟨S, β, γ, lam, ω, H.setV hd ?_⟩)
          simp only [VR]
          refine ⟨_, rfl, getLs_ok ti.size fun i hi => ?_⟩
          obtain ⟨v, a', g1, g2, g3, _⟩ := hcells i hi
          have : f i = v := by show (x[off + i]?).getD undef = v; rw [g1]; rfl
          rw [this]
          simp only [Env.av, Ent.av, g2]
          exact g3
        | false =>
          rw [hag] at hr
          simp only [cond_false] at hr ⊢
          cases hone : decide (ti.size = 1) with
          | false => rw [hone] at hr; exact absurd rfl hr
          | true =>
            have hone' : ti.size = 1 := by simpa using hone
            simp only [cond_true]
            obtain ⟨v, a', g1, g2, g3, g4⟩ := hcells 0 (by omega)
            simp only [Nat.add_zero] at g1 g2 g4
            have hfv : f 0 = v := by show (x[off + 0]?).getD undef = v; rw [Nat.add_zero, g1]; rfl
            refine After.val (hexec _ (hfv ▸ hload.2 hag hone')) (Sat.up ⟨S, β, γ, lam, ω, H.set hd ?_ (fun g z hg hz => g4 g z hg hz) (fun g hg => H.used.1 _ g hg)⟩)
            rw [g2]
            exact g3
  | val av =>
    rw [hv] at hr hp
    simp only at hr ⊢
    simp only [SlotR] at hp
    have hexec : ∀ v, (Instr.loadAt t (a.tmps.getD p undef)).run P w = .ok v w → (execOp a.eval o).run P w = .ok (.value v) w := fun v hv' => by
      simp only [execOp, ho, Act.eval, Sem.run_bind, hv', Result.andThen_ok, Sem.run_pure]
    have hbyval : ∀ r, loadA cx.T t av = some r → After P c N (UG U gid) (.ok (e.upd o.dst (.ofV r)) h) o a w := fun r hr' => by
      obtain ⟨v, h1, h2⟩ := load_ok hT H.wf hr' hp
      exact After.val (hexec v h1) (Sat.up ⟨S, β, γ, lam, ω, H.setV hd h2⟩)
    cases hmem : memO cx.ann.hl o.dst with
    | false =>
      rw [hmem] at hr
      simp only [cond_false] at hr ⊢
      cases hl : loadA cx.T t av with
      | none => rw [hl] at hr; exact absurd rfl hr
      | some r => exact hbyval r hl
    | true =>
      rw [hmem] at hr
      simp only [cond_true] at hr ⊢
      simp only [runAct, bnd] at hr ⊢
      by_cases hav : ∃ l off, av = .hp l off
      · obtain ⟨l, off, rfl⟩ := hav
        unfold loadH at hr ⊢
        simp only at hr ⊢
        simp only [VR] at hp
        obtain ⟨⟨b, nb⟩, hb, hpv⟩ := hp
        cases ht : cx.T t with
        | none => rw [ht] at hr; exact absurd rfl hr
        | some ti =>
          cases hcs : h[l]? with
          | none => rw [ht, hcs] at hr; exact absurd rfl hr
          | some cs =>
            rw [ht, hcs] at hr
            simp only at hr ⊢
            obtain ⟨ii, d, _, hii, hdd, _, _, hsz, _, _, hagd, _⟩ := (hT.get ht).ex
            by_cases hne : cs = []
            · subst hne
              cases hag : ti.agg with
              | true =>
                rw [hag] at hr
                simp only [cond_true, List.length_nil] at hr ⊢
                by_cases hz : off + ti.size ≤ 0
                · rw [if_pos hz] at hr ⊢
                  have hz0 : ti.size = 0 := by omega
                  have hl0 : (loadVar t ⟨b, off, none⟩).run P w = .ok (.agg #[]) w := by
                    simp [loadVar, run_isAgg hdd, hagd, hag, run_sizeOf hii, hsz, hz0, loadCells, loadCellsFrom]
                  refine After.val (v := .agg #[]) (hexec _ (by rw [hpv]; simp only [Instr.loadAt, Instr.sureAddr, Sem.run_bind, Sem.run_pure, Result.andThen_ok, hl0])) (Sat.up ⟨S, β, γ, lam, ω, H.setV hd ?_⟩)
                  simp only [VR]
                  exact ⟨[], by simp, by simp [VRs]⟩
                · rw [if_neg hz] at hr; exact absurd rfl hr
              | false => rw [hag, List.getElem?_nil] at hr; exact absurd rfl hr
            · obtain ⟨b', y, k1, k2, k3, k4, k5⟩ := H.heap l cs hcs hne
              rw [hb] at k1; cases k1
              have hcell : ∀ j v, (y.toList.take cs.length)[j]? = some v → w.cell? ⟨b, 0 + j, none⟩ = some v := fun j v hj => by
                rw [Nat.zero_add, k2.cell]
                rw [List.getElem?_take] at hj
                split at hj
                · simpa using hj
                · simp at hj
              have hvd := k4.drop off
              have hcd : ∀ j v, ((y.toList.take cs.length).drop off)[j]? = some v → w.cell? ⟨b, off + j, none⟩ = some v := fun j v hj => by
                rw [List.getElem?_drop] at hj
                have := hcell _ _ hj
                rwa [Nat.zero_add] at this
              cases hag : ti.agg with
              | true =>
                rw [hag] at hr
                simp only [cond_true] at hr ⊢
                by_cases hz : off + ti.size ≤ cs.length
                · rw [if_pos hz] at hr ⊢
                  obtain ⟨v, h1, h2⟩ := loadVar_ok hT ht hvd hcd (r := .agg ((cs.drop off).take ti.size)) (by rw [hag]; simp only [cond_true]; rw [if_pos (by simp; omega)])
                  exact After.val (hexec v (by rw [hpv]; simp only [Instr.loadAt, Instr.sureAddr, Sem.run_bind, Sem.run_pure, Result.andThen_ok, h1])) (Sat.up ⟨S, β, γ, lam, ω, H.setV hd h2⟩)
                · rw [if_neg hz] at hr; exact absurd rfl hr
              | false =>
                rw [hag] at hr
                simp only [cond_false] at hr ⊢
                cases hg : cs[off]? with
                | none => rw [hg] at hr; exact absurd rfl hr
                | some r =>
                  simp only
                  obtain ⟨v, h1, h2⟩ := loadVar_ok hT ht hvd hcd (r := r) (by rw [hag]; simp only [cond_false, List.head?_drop]; exact hg)
                  exact After.val (hexec v (by rw [hpv]; simp only [Instr.loadAt, Instr.sureAddr, Sem.run_bind, Sem.run_pure, Result.andThen_ok, h1])) (Sat.up ⟨S, β, γ, lam, ω, H.setV hd h2⟩)
      · rw [loadH_ne (fun l off hh => hav ⟨l, off, hh⟩)] at hr ⊢
        cases hl : loadA cx.T t av with
        | none => rw [hl] at hr; exact absurd rfl hr
        | some r => exact hbyval r hl
end
end Go.Av

/- One operation: stores. Conditions: the table of types is the program's; the calls are right. -/
namespace Go.Av
variable [Dr]

section
variable {P : Program} {cx : Cx} {c : Entry} {N : Nat} {U : Nat → Prop} {e : Env} {h : Hp} {a : Act} {w : World} {S : Stab} {β : List Blk} {γ : Nat → Value} {lam : Nat → Option Nat} {ω : Nat → Owner} {o : Oper} {gid : Nat}

omit [Dr] in
theorem okCell_ok {x : AV} {v : Value} (h : okCell x = true) (hv : VR S β x v) : v.cells = #[v] ∧ v.oneCell' = true := by
  have h1 : sizeA x = some 1 := by cases x <;> simp_all [okCell, sizeA]
  have h2 : okEl 1 x = true := by
    unfold okEl
    rw [h1]
    cases x <;> simp_all [okCell, acells]
  obtain ⟨g1, g2, g3⟩ := okEl_ok h2 hv
  have hc : v.cells = #[v] := by
    cases x <;> simp [okCell] at h <;> simp only [VR] at hv
    case bool => subst hv; rfl
    case int => subst hv; rfl
    case nilp => subst hv; rfl
    case nilf => subst hv; rfl
    case nili => subst hv; rfl
    case hn => subst hv; rfl
    case str => obtain ⟨_, rfl, _⟩ := hv; rfl
    case sl => obtain ⟨_, _, rfl, _⟩ := hv; rfl
    case ip => obtain ⟨_, _, _, rfl, _⟩ := hv; rfl
    case hp => obtain ⟨_, _, rfl⟩ := hv; rfl
    case hs => obtain ⟨_, _, _, rfl, _⟩ := hv; rfl
    case fn => obtain ⟨_, _, rfl, _⟩ := hv; rfl
    case iface => obtain ⟨_, rfl, _⟩ := hv; rfl
  exact ⟨hc, g3 v (by rw [hc]; simp)⟩

omit [Dr] in
theorem storeAt_run (hT : TOK P cx.T) {t : Nat} {ti : TI} (ht : cx.T t = some ti) {b off : Nat} {x : Array Value} {v : Value} (hr : Row w b x) (hs : v.cells.size = ti.size) (hone : ∀ y ∈ v.cells.toList, y.oneCell' = true) (hle : off + ti.size ≤ x.size) :
    (Instr.storeAt t (.pointer (some ⟨b, off, none⟩)) v).run P w = .ok () (w.setRow b (x.toList.take off ++ v.cells.toList ++ x.toList.drop (off + v.cells.toList.length)).toArray) := by
  obtain ⟨ii, d, _, hii, hd, _, _, hsz, _⟩ := (hT.get ht).ex
  obtain ⟨te, hrow⟩ := hr
  have hst := run_storeCells_at P b off te v.cells.toList 0 x w hrow (by simp [hs]; omega) hone
  simp only [Nat.add_zero] at hst
  have hne : ¬ (v.cells.size ≠ ii.size) := by rw [hs, hsz]; simp
  simp only [Instr.storeAt, Instr.sureAddr, Sem.run_bind, Sem.run_pure, Result.andThen_ok, storeVar, run_sizeOf hii, hne, if_false, hst]

omit [Dr] in
theorem cellsN_ok {n : Nat} {x : AV} {cs : List AV} {v : Value} (h : cellsN n x = some cs) (hv : VR S β x v) : cs = acells x ∧ v.cells.size = n ∧ VRs S β cs v.cells.toList ∧ ∀ y ∈ v.cells.toList, y.oneCell' = true := by
  unfold cellsN at h
  cases hk : okEl n x with
  | false => rw [hk] at h; simp at h
  | true =>
    rw [hk] at h
    simp only [cond_true, Option.some.injEq] at h
    subst h
    obtain ⟨h1, h2, h3⟩ := okEl_ok hk hv
    exact ⟨rfl, h1, h2, h3⟩

omit [Dr] in
theorem isHn_inv {x : AV} (h : isHn x = true) : x = .hn := by cases x <;> simp_all [isHn]

theorem store_op (hT : TOK P cx.T) (H : FR c N U e h a w S β γ lam ω) (hN : ∀ t, t < 1000 → True) (hU : ∀ g, gid ≤ g → g < gid + 1000 → ¬ U g) {t : Nat} {x y : Operand} (ho : o.op = .store t x y) (hx : ∀ t, x = .tmp t → t < 1000) (hy : ∀ t, y = .tmp t → t < 1000)
    (hpN : ∀ p, x = .tmp p → isS (findK cx.ann.kinds p .L) = true → p < N) (hr : runOp cx e gid o h ≠ .fail) : After P c N (UG U gid) (runOp cx e gid o h) o a w := by
  unfold runOp opD at hr ⊢
  rw [ho] at hr ⊢
  cases x <;> simp only at hr ⊢ <;> (try exact absurd rfl hr)
  rename_i p
  cases hdst : o.dst with
  | some d => rw [hdst] at hr; exact absurd rfl hr
  | none =>
  rw [hdst] at hr
  simp only at hr ⊢
  cases hlw : memN cx.ann.lw p && !(isLocE (e.get p)) with
  | true => rw [hlw] at hr; exact absurd rfl hr
  | false =>
  rw [hlw] at hr
  simp only [cond_false] at hr ⊢
  have hp := H.slots p (hx p rfl)
  have hyv := opnd_ok H y hy
  have hexec : ∀ w', (Instr.storeAt t (a.tmps.getD p undef) (a.eval y)).run P w = .ok () w' → (execOp a.eval o).run P w = .ok .skip w' := fun w' hh => by
    have he : a.eval (.tmp p) = a.tmps.getD p undef := rfl
    simp only [execOp, ho, he, Sem.run_bind, hh, Result.andThen_ok, Sem.run_pure]
  unfold opStore at hr ⊢
  cases hv : (e.get p).v with
  | loc B off =>
    rw [hv] at hr hp
    simp only at hr ⊢
    simp only [SlotR] at hp
    obtain ⟨b, hlam, hpv⟩ := hp
    cases ht : cx.T t with
    | none => rw [ht] at hr; exact absurd rfl hr
    | some ti =>
      rw [ht] at hr
      simp only at hr ⊢
      cases hin : inLb e B off ti.size with
      | false => rw [hin] at hr; exact absurd rfl hr
      | true =>
        rw [hin] at hr
        simp only [cond_true] at hr ⊢
        obtain ⟨b', z, m, hm, hle, hlam', hrow, hms, hcells⟩ := H.locals hin
        rw [hlam] at hlam'; cases hlam'
        have hst : ∀ v, a.eval y = v → v.cells.size = ti.size → (∀ q ∈ v.cells.toList, q.oneCell' = true) →
            (execOp a.eval o).run P w = .ok .skip (w.setRow b (z.toList.take off ++ v.cells.toList ++ z.toList.drop (off + v.cells.toList.length)).toArray) := fun v hv' h1 h2 =>
          hexec _ (by rw [hpv, hv']; exact storeAt_run hT ht hrow h1 h2 (by omega))
        cases hS : isS (findK cx.ann.kinds p .L) with
        | true =>
          rw [hS] at hr
          simp only [cond_true] at hr ⊢
          cases hcond : wholeB e B off p ti.size with
          | false => rw [hcond] at hr; exact absurd rfl hr
          | true =>
            rw [hcond] at hr
            simp only [cond_true] at hr ⊢
            unfold wholeB at hcond
            rw [hm] at hcond
            simp only [Bool.and_eq_true] at hcond
            obtain ⟨⟨h1, h2⟩, h3⟩ := hcond
            have h1 := Nat.eq_of_beq_eq_true h1
            have h3 := Nat.eq_of_beq_eq_true h3
            subst h1 h3
            unfold cellsM at hr ⊢
            cases hcs : cellsN ti.size (opnd e y) with
            | none => rw [hcs] at hr; exact absurd rfl hr
            | some cs =>
              obtain ⟨k1, k2, k3, k4⟩ := cellsN_ok hcs hyv
              obtain ⟨S', ω', _, F⟩ := H.storeS (u := ⟨.val (.tup []), none⟩) (hpN p rfl hS) hm (by simpa using k2) hlam hrow k3 hpv
              refine After.skip hdst (hst _ rfl k2 k4) ?_
              have F2 := F.wider (V := UG U gid) (fun _ h => .inl h)
              have hacs : acells (.agg cs) = cs := rfl
              simp only [Option.map_some, List.take_zero, List.nil_append, Nat.zero_add] at F2 ⊢
              exact ⟨_, _, _, _, _, F2⟩
        | false =>
          rw [hS] at hr
          simp only [cond_false] at hr ⊢
          cases hag : ti.agg with
          | true =>
            rw [hag] at hr
            simp only [cond_true] at hr ⊢
            unfold cellsNil at hr ⊢
            cases hcs : cellsN ti.size (opnd e y) with
            | none => rw [hcs] at hr; exact absurd rfl hr
            | some cs =>
              rw [hcs] at hr
              simp only at hr ⊢
              cases hnil : nilsAt cs (findN cx.ann.nils p) ti.size with
              | false => rw [hnil] at hr; exact absurd rfl hr
              | true =>
                obtain ⟨k1, k2, k3, k4⟩ := cellsN_ok hcs hyv
                have hnb : ∀ i ∈ findN cx.ann.nils p, i < ti.size ∧ nth cs i = .hn := fun i hi => by
                  unfold nilsAt at hnil
                  rw [List.all_eq_true] at hnil
                  have := hnil i hi
                  rw [Bool.and_eq_true] at this
                  exact ⟨by simpa using this.1, isHn_inv this.2⟩
                have hm1000 : m < 1000 := (H.lblk B m hm).2.2.1
                have hcsl : cs.length = ti.size := by rw [← k3.length]; simpa using k2
                have F := H.storeL (u := ⟨.val (.tup []), none⟩) (L := lsOf (B + off) cs (findN cx.ann.nils p) gid ti.size) (A := gsOf (findN cx.ann.nils p) gid) (vs := (a.eval y).cells.toList) (ent := cellEnt cs (findN cx.ann.nils p) gid)
                  hU (nilGroups_gsOf (fun i hi => (hnb i hi).1) (by omega)) hm hle (by simpa using k2) hlam hrow (fun t' => lookE_lsOf _ _ _ _ _ _ _) (fun i hi => by
                    obtain ⟨v, v1, v2⟩ := k3.allR i (by omega)
                    unfold cellEnt
                    cases hmem : memN (findN cx.ann.nils p) i with
                    | true =>
                      have hn := (hnb i ((memN_iff _ _).1 hmem)).2
                      rw [hn] at v2
                      simp only [VR] at v2
                      subst v2
                      refine ⟨_, .sl [], v1, rfl, ?_, fun g z hg _ => ?_, fun g hg => ?_⟩
                      · simp only [VR]; exact ⟨none, 0, rfl, Nat.le_refl _, fun _ => rfl, fun q hq => by cases hq⟩
                      · simp only [cond_true, Option.some.injEq] at hg
                        unfold γN
                        rw [if_pos (by omega)]
                      · simp only [cond_true, Option.some.injEq] at hg
                        exact .inr (by omega)
                    | false => exact ⟨v, nth cs i, v1, rfl, v2, fun g z hg _ => by simp at hg, fun g hg => by simp at hg⟩)
                refine After.skip hdst (hst _ rfl k2 k4) ?_
                exact ⟨_, _, _, _, _, F⟩
          | false =>
            rw [hag] at hr
            simp only [cond_false] at hr ⊢
            cases hone : decide (ti.size = 1) with
            | false => rw [hone] at hr; exact absurd rfl hr
            | true =>
              have hone' : ti.size = 1 := by simpa using hone
              rw [hone] at hr
              simp only [cond_true] at hr ⊢
              have hput : ∀ (v : Value) (u : Ent) (en : Ent) (A : List (Nat × Option Nat)) (av : AV), a.eval y = v → v.cells = #[v] → v.oneCell' = true → NilGroups A gid → en.v = .val av → VR S β av v →
                  (∀ g z, en.g = some g → aliveG (A ++ e.al) g = some z → v = γN γ gid g) → (∀ g, en.g = some g → U g ∨ (gid ≤ g ∧ g < gid + 1000)) →
                  After P c N (UG U gid) (.ok (e.upd none { ent := u, ls := [(B + off, en)], add := A }) h) o a w := by
                intro v u en A av hav hc1 hc2 hA hen hr1 hg1 hg2
                have F := H.storeL (u := u) (L := [(B + off, en)]) (A := A) (n := 1) (m := m) (off := off) (vs := v.cells.toList) (ent := fun _ => en) hU hA hm (by omega) (by rw [hc1]; rfl) hlam hrow (fun t' => by
                    simp only [List.cons_append, List.nil_append, lookE_cons]
                    by_cases ht' : B + off = t'
                    · rw [if_pos ht', if_pos (by omega)]
                    · rw [if_neg ht', if_neg (by omega)]; rfl) (fun i hi => by
                    have : i = 0 := by omega
                    subst this
                    exact ⟨v, av, by rw [hc1]; rfl, hen, hr1, hg1, hg2⟩)
                refine After.skip hdst (hst v hav (by rw [hc1, hone']; rfl) (by rw [hc1]; simpa using hc2)) ?_
                exact ⟨_, _, _, _, _, F⟩
              rw [hdst] at *
              cases y with
              | tmp s =>
                simp only at hr ⊢
                have hs := H.slots s (hy s rfl)
                cases hsv : (e.get s).v with
                | loc _ _ => rw [hsv] at hr; exact absurd rfl hr
                | val av =>
                  rw [hsv] at hr hs
                  simp only at hr ⊢
                  unfold cell1M at hr ⊢
                  cases hok : okCell av with
                  | false => rw [hok] at hr; exact absurd rfl hr
                  | true =>
                    obtain ⟨j1, j2⟩ := okCell_ok hok hs
                    refine hput _ _ (e.get s) [] av rfl j1 j2 (nilGroups_nil gid) hsv hs (fun g z hg hz => ?_) (fun g hg => .inl (H.used.1 s g hg))
                    unfold γN
                    rw [if_neg (fun hr => hU g hr.1 hr.2 (H.used.1 s g hg))]
                    exact H.grps s g z (hy s rfl) hg hz
              | const v =>
                simp only at hr ⊢
                cases hn : isNilConst (.const v) with
                | true =>
                  have hv' : v = .slice none 0 0 := by
                    unfold isNilConst at hn
                    split at hn
                    · rename_i hq; simpa using hq
                    · simp at hn
                  subst hv'
                  refine hput _ _ _ _ (.sl []) rfl rfl rfl (nilGroups_one gid) rfl ?_ (fun g z hg hz => ?_) (fun g hg => ?_)
                  · simp only [VR]; exact ⟨none, 0, rfl, Nat.le_refl _, fun _ => rfl, fun q hq => by cases hq⟩
                  · simp only [Option.some.injEq] at hg
                    unfold γN
                    rw [if_pos (by omega)]
                    rfl
                  · simp only [Option.some.injEq] at hg
                    exact .inr (by omega)
                | false =>
                  rw [hn] at hr
                  simp only [cond_false] at hr ⊢
                  unfold cell1M at hr ⊢
                  cases hok : okCell (opnd e (.const v)) with
                  | false => rw [hok] at hr; exact absurd rfl hr
                  | true =>
                    obtain ⟨j1, j2⟩ := okCell_ok hok hyv
                    exact hput _ _ _ [] _ rfl j1 j2 (nilGroups_nil gid) rfl hyv (fun g z hg _ => by cases hg) (fun g hg => by cases hg)
              | global g => simp only [isNilConst, cond_false, cell1M, opnd, okCell] at hr; exact absurd rfl hr
              | func f =>
                simp only [isNilConst, cond_false] at hr ⊢
                unfold cell1M at hr ⊢
                cases hok : okCell (opnd e (.func f)) with
                | false => rw [hok] at hr; exact absurd rfl hr
                | true =>
                  obtain ⟨j1, j2⟩ := okCell_ok hok hyv
                  exact hput _ _ _ [] _ rfl j1 j2 (nilGroups_nil gid) rfl hyv (fun g z hg _ => by cases hg) (fun g hg => by cases hg)
  | val av =>
    rw [hv] at hr hp
    simp only at hr ⊢
    simp only [SlotR] at hp
    simp only [runAct, bnd] at hr ⊢
    cases hav : av with
    | hp l off =>
      subst hav
      simp only [VR] at hp
      obtain ⟨⟨b, nb⟩, hb, hpv⟩ := hp
      unfold storeH at hr ⊢
      cases ht : cx.T t with
      | none => rw [ht] at hr; exact absurd rfl hr
      | some ti =>
        rw [ht] at hr
        simp only at hr ⊢
        cases hcs : h[l]? with
        | none => rw [hcs] at hr; exact absurd rfl hr
        | some cs =>
          rw [hcs] at hr
          simp only at hr ⊢
          cases hcond : (okEl ti.size (opnd e y) && decide (off + ti.size ≤ cs.length) && decide (0 < ti.size)) with
          | false => rw [hcond] at hr; exact absurd rfl hr
          | true =>
            rw [hcond] at hr
            simp only [cond_true] at hr ⊢
            simp only [Bool.and_eq_true, decide_eq_true_eq] at hcond
            obtain ⟨⟨h1, h2⟩, h3⟩ := hcond
            obtain ⟨k2, k3, k4⟩ := okEl_ok h1 hyv
            have hne : cs ≠ [] := by rintro rfl; simp at h2; omega
            obtain ⟨b', z, j1, j2, j3, j4, j5⟩ := H.heap l cs hcs hne
            rw [hb] at j1; cases j1
            have hzs : cs.length ≤ z.size := by
              have := j4.length
              simp at this
              omega
            have hacl : (acells (opnd e y)).length = ti.size := by rw [← k3.length]; simpa using k2
            have F := H.turnH (cs' := setCells cs off (acells (opnd e y))) (y := (z.toList.take off ++ (a.eval y).cells.toList ++ z.toList.drop (off + (a.eval y).cells.toList.length)).toArray) hcs hne ⟨_, hb⟩ j2 (by simp [k2]; omega) (by
              rw [setCells_length _ _ _ (by omega)]
              have hsp : VRs S β (setCells cs off (acells (opnd e y))) (((z.toList.take cs.length).take off ++ (a.eval y).cells.toList ++ (z.toList.take cs.length).drop (off + (a.eval y).cells.toList.length))) := by
                unfold setCells
                have hl1 : (a.eval y).cells.toList.length = (acells (opnd e y)).length := k3.length
                rw [hl1]
                exact ((j4.take off).append k3).append (j4.drop _)
              have heq : (z.toList.take off ++ (a.eval y).cells.toList ++ z.toList.drop (off + (a.eval y).cells.toList.length)).take cs.length =
                  (z.toList.take cs.length).take off ++ (a.eval y).cells.toList ++ (z.toList.take cs.length).drop (off + (a.eval y).cells.toList.length) := by
                rw [List.take_append, List.take_append]
                have hl : (a.eval y).cells.toList.length = ti.size := by simpa using k2
                have e1 : (z.toList.take off).length = off := by simp; omega
                rw [List.take_take, List.take_take]
                have e2 : min cs.length off = off := by omega
                have e3 : min off cs.length = off := by omega
                rw [e2, e3, e1]
                have e4 : (a.eval y).cells.toList.take (cs.length - off) = (a.eval y).cells.toList := List.take_of_length_le (by omega)
                rw [e4]
                congr 1
                rw [List.take_drop, List.length_append, e1, hl]
                congr 2
                omega
              show VRs S β _ (List.take _ _)
              rw [show (z.toList.take off ++ (a.eval y).cells.toList ++ z.toList.drop (off + (a.eval y).cells.toList.length)).toArray.toList = (z.toList.take off ++ (a.eval y).cells.toList ++ z.toList.drop (off + (a.eval y).cells.toList.length)) from rfl, heq]
              exact hsp)
            refine After.skip hdst (hexec _ (by rw [hpv]; exact storeAt_run hT ht j2 k2 k4 (by omega))) ?_
            have hupd : ∀ E : Env, E.upd none (.ofV (.tup [])) = E := fun E => rfl
            rw [hupd]
            exact Sat.up ⟨_, _, _, _, _, F⟩
    | _ => subst hav; unfold storeH at hr; exact absurd rfl hr
end
end Go.Av
