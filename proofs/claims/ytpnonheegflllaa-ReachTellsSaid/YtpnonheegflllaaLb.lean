/- The abstract evaluator of the model and plain laws, part 2: its soundness holds for every program whose table of types is the evaluator's. No further condition. -/
import Derived.Test.YtpnonheegflllaaLa
import Derived.Sort.MapsRangeIn
import Derived.Maps.OwnIn
import Derived.RangeFuncSeq

/- Appends by value in an abstract frame. No condition. -/
namespace Go.Av
variable [Dr]
section
variable {c : Entry} {N : Nat} {U : Nat → Prop} {e : Env} {h : Hp} {a : Act} {w : World} {S : Stab} {β : List Blk} {γ : Nat → Value} {lam : Nat → Option Nat} {ω : Nat → Owner}
theorem FR.regrp (H : FR c N U e h a w S β γ lam ω) {d : Option Tmp} {r : AV} {v : Value} {gid : Nat} {z : Option Nat} {g0 : Option Nat} {w' : World} {S' : Stab} {ω' : Nat → Owner} (hd : ∀ t, d = some t → t < N)
    (hU : ∀ g, gid ≤ g → g < gid + 1000 → ¬ U g) (hwf : Wf S' w') (hg : Gro w w') (hle : S.le S')
    (hk : ∀ k, k < w.heap.size → (∀ g, g0 = some g → ω k ≠ .grp g) → w'.heap[k]? = w.heap[k]? ∧ ∀ o, S' k o = S k o)
    (hω : ∀ k, ω k ≠ .no → (∀ g, g0 = some g → ω k ≠ .grp g) → ω' k = ω k) (hmine : ∀ b, ω' b ≠ .no → MineAt c ω' b ∧ b < w'.heap.size)
    (hv : VR S' β r v) (hf : FreeR S' w' ω' gid z v) :
    FR c N (fun g => U g ∨ (gid ≤ g ∧ g < gid + 1000)) (e.upd d { Upd.own r gid z with drop := g0 }) h (a.put d v) w' S' β (fun g => if g = gid then v else γ g) lam ω' := by
  have hget : ∀ t, (e.upd d { Upd.own r gid z with drop := g0 }).get t = if d = some t then ⟨.val r, some gid⟩ else e.get t := fun t => by rw [get_upd]; rfl
  have hal : (e.upd d { Upd.own r gid z with drop := g0 }).al = (gid, z) :: dropO e.al g0 := rfl
  have hlb : (e.upd d { Upd.own r gid z with drop := g0 }).lb = e.lb := rfl
  have hdl : ∀ B i : Nat, 1000 ≤ B → d ≠ some (B + i) := fun B i hB hh => by have h1 : B + i < N := hd _ hh; have h2 := H.tsz.2; omega
  have hdrop : ∀ g y, aliveG (dropO e.al g0) g = some y → aliveG e.al g = some y ∧ g0 ≠ some g := by
    intro g y hg
    cases g0 with
    | none => exact ⟨hg, by simp⟩
    | some k =>
      simp only [dropO, aliveG_drop] at hg
      split at hg
      · simp at hg
      · rename_i hkg; exact ⟨hg, by simpa using hkg⟩
  have hne : ∀ t g, (e.get t).g = some g → g ≠ gid := fun t g hg hh => hU g (by omega) (by omega) (H.used.1 t g hg)
  have hna : ∀ g y, aliveG e.al g = some y → g ≠ gid := fun g y hg hh => hU g (by omega) (by omega) (H.used.2 g y hg)
  have halv : ∀ g y, g ≠ gid → aliveG ((gid, z) :: dropO e.al g0) g = some y → aliveG e.al g = some y ∧ g0 ≠ some g := fun g y hg hy => by
    rw [aliveG_cons, if_neg (fun h => hg h.symm)] at hy
    exact hdrop g y hy
  have hrow : ∀ {b x}, Row w b x → (∀ g, g0 = some g → ω b ≠ .grp g) → Row w' b x := fun hr hb => hr.of_eq (hk _ hr.lt hb).1
  have hsz := hg.size
  refine ⟨hwf, H.gro.trans hg, fun b hb hE => ?_, Stab.le_trans H.le hle, H.ext, H.hlen, ?_, by rw [tmps_put_size]; exact H.tsz, fun t ht => ?_, fun t g y ht hgg hz => ?_, fun B n hB => ?_, fun g y hg => ?_, hmine, ⟨fun t g hgg => ?_, fun g y hg => ?_⟩⟩
  · have hnb : ∀ g, g0 = some g → ω b ≠ .grp g := fun g _ hbg => by
      have := (H.mine b (by rw [hbg]; simp)).1.low
      rcases this with h | h
      · exact hE h
      · omega
    have h1 := hk b (Nat.lt_of_lt_of_le hb H.size) hnb
    have h2 := H.keep b hb hE
    exact ⟨h1.1.trans h2.1, fun o => (h1.2 o).trans (h2.2 o)⟩
  · exact H.heap.rows hle (Ext.refl β) H.hlen fun l cs hl _ => .inl ⟨hl, fun b hb ho => by
      have hnb : ∀ g, g0 = some g → ω b ≠ .grp g := fun g _ => by rw [ho]; simp
      exact ⟨by rw [hω b (by rw [ho]; simp) hnb]; exact ho, (hk b hb hnb).1, fun o h => by rw [(hk b hb hnb).2]; exact h⟩⟩
  · rw [hget, tmps_put a d v hd H.tsz.1]
    split
    · exact hv
    · have := H.slots t ht
      cases hv : (e.get t).v with
      | val av => rw [hv] at this; exact VR.mono hle (Ext.refl β) _ _ this
      | loc B off => rw [hv] at this; exact this
  · rw [hget] at hgg
    rw [hal] at hz
    rw [tmps_put a d v hd H.tsz.1]
    split at hgg
    · rename_i hdt
      rw [if_pos hdt]
      simp only [Option.some.injEq] at hgg
      simp [← hgg]
    · rename_i hdt
      have hg := hne t g hgg
      rw [if_neg hdt, if_neg hg]
      exact H.grps t g y ht hgg (halv g y hg hz).1
  · rw [hlb] at hB
    obtain ⟨h1, h2, h3, b, x, h4, h5, h6, h7, h8⟩ := H.lblk B n hB
    have hnb : ∀ g, g0 = some g → ω b ≠ .grp g := fun g _ => by rw [h6]; simp
    refine ⟨h1, h2, h3, b, x, h4, hrow h5 hnb, by rw [hω b (by rw [h6]; simp) hnb]; exact h6, fun o => by rw [(hk b h5.lt hnb).2]; exact h7 o, fun i hi => ?_⟩
    rw [hget, if_neg (hdl B i h2)]
    obtain ⟨u, a', g1, g2, g3, g4⟩ := h8 i hi
    refine ⟨u, a', g1, g2, VR.mono hle (Ext.refl β) _ _ g3, fun g y hg hy => ?_⟩
    have hgn := hne _ g hg
    rw [if_neg hgn]
    rw [hal] at hy
    exact g4 g y hg (halv g y hgn hy).1
  · rw [hal] at hg
    by_cases hgg : g = gid
    · subst hgg
      rw [aliveG_cons, if_pos rfl] at hg
      simp only [Option.some.injEq] at hg; subst hg
      simpa using hf
    · simp only [if_neg hgg]
      obtain ⟨h1, h2⟩ := halv g y hgg hg
      obtain ⟨a', len, cap, k1, k2, k3, k4⟩ := H.free g y h1
      refine ⟨a', len, cap, k1, k2, k3, k4.imp id ?_⟩
      rintro ⟨sz, b, off, x, j1, j2, j3, j4, j5, j6⟩
      have hnb : ∀ g', g0 = some g' → ω b ≠ .grp g' := fun g' hg' => by
        rw [j5]
        simp only [ne_eq, Owner.grp.injEq]
        rintro rfl
        exact h2 hg'
      exact ⟨sz, b, off, x, j1, j2, hrow j3 hnb, j4, by rw [hω b (by rw [j5]; simp) hnb]; exact j5, fun o ho => by rw [(hk b j3.lt hnb).2]; exact j6 o ho⟩
  · rw [hget] at hgg
    split at hgg
    · simp only [Option.some.injEq] at hgg; exact .inr (by omega)
    · exact .inl (H.used.1 t g hgg)
  · rw [hal] at hg
    by_cases hgg : g = gid
    · exact .inr (by omega)
    · exact .inl (H.used.2 g y (halv g y hgg hg).1)
omit [Dr] in
theorem els_size {S : Stab} {β : List Blk} {es : List AV} {b off sz sz' : Nat} (h : ElsAt S β es b off sz') (hok : okSz sz es = true) (hne : es ≠ []) : sz' = sz := by
  cases es with
  | nil => exact absurd rfl hne
  | cons x es =>
    simp only [ElsAt] at h
    simp only [okSz, List.all_cons, Bool.and_eq_true] at hok
    obtain ⟨⟨v, hv, hs, _⟩, _⟩ := h
    have := (okEl_ok hok.1 hv).1
    omega
open Classical in
theorem FR.app (H : FR c N U e h a w S β γ lam ω) {d : Option Tmp} {as bs : List AV} {vx v : Value} {w' : World} {gid sz : Nat} {g0 : Option Nat} {z : Option Nat} (hd : ∀ t, d = some t → t < N)
    (hU : ∀ g, gid ≤ g → g < gid + 1000 → ¬ U g) (hx : VR S β (.sl as) vx) (hoa : okSz sz as = true)
    (hfree : (g0 = none ∧ vx = .slice none 0 0) ∨ ∃ g, g0 = some g ∧ FreeR S w ω g z vx) (hz : z = none ∨ z = some sz)
    (happ : Appended S β w sz as bs vx v w') :
    ∃ S' ω', FR c N (fun g => U g ∨ (gid ≤ g ∧ g < gid + 1000)) (e.upd d { Upd.own (.sl (as ++ bs)) gid (some sz) with drop := g0 }) h (a.put d v) w' S' β (fun g => if g = gid then v else γ g) lam ω' := by
  cases happ with
  | same hb =>
    subst hb
    refine ⟨S, fun k => if ∃ g, g0 = some g ∧ ω k = .grp g then .grp gid else ω k, H.regrp hd hU H.wf (Gro.refl _) (Stab.le_refl S) (fun k _ _ => ⟨rfl, fun _ => rfl⟩) ?_ ?_ (by simpa using hx) ?_⟩
    · intro k _ hk
      rw [if_neg]
      rintro ⟨g, h1, h2⟩
      exact hk g h1 h2
    · intro b hb
      (try simp only at hb)
      split at hb
      · rename_i hg
        obtain ⟨g, _, hg⟩ := hg
        exact ⟨.inr ((H.mine b (by rw [hg]; simp)).1.grp hg), (H.mine b (by rw [hg]; simp)).2⟩
      · rename_i hg
        exact ⟨(H.mine b hb).1.of_eq (if_neg hg), (H.mine b hb).2⟩
    · rcases hfree with ⟨_, rfl⟩ | ⟨g, rfl, a', len, cap, h1, h2, h3, h4⟩
      · exact ⟨none, 0, 0, rfl, Nat.le_refl _, fun _ => rfl, .inl rfl⟩
      · refine ⟨a', len, cap, h1, h2, h3, h4.imp id ?_⟩
        rintro ⟨sz', b, off, x, g1, g2, g3, g4, g5, g6⟩
        have : sz' = sz := by rcases hz with rfl | rfl <;> simp_all
        subst this
        exact ⟨sz', b, off, x, rfl, g2, g3, g4, by (try simp only); rw [if_pos ⟨g, rfl, g5⟩], g6⟩
  | place b off cap x cs hv hr hlt hc hb hf =>
    subst hv
    rcases hfree with ⟨_, hcon⟩ | ⟨g, rfl, a', len, cap', h1, h2, h3, h4⟩
    · cases hcon
    · simp only [Value.slice.injEq] at h1
      obtain ⟨rfl, rfl, rfl⟩ := h1
      have hpos : 0 < bs.length := List.length_pos_iff.2 hb
      rcases h4 with h4 | ⟨sz', b', off', x', g1, g2, g3, g4, g5, g6⟩
      · omega
      · have : sz' = sz := by rcases hz with rfl | rfl <;> simp_all
        subst this
        simp only [Option.some.injEq, Addr.mk.injEq] at g2
        obtain ⟨rfl, rfl, _⟩ := g2
        cases hr.inj g3
        have hcl := hf.1
        have hle : (as.length + bs.length) * sz' ≤ cap * sz' := Nat.mul_le_mul_right _ hlt
        rw [Nat.add_mul] at hle
        have hynew : ∀ i, (x.toList.take (off + as.length * sz') ++ cs ++ x.toList.drop (off + as.length * sz' + cs.length)).toArray[i]? =
            if off + as.length * sz' ≤ i ∧ i < off + as.length * sz' + cs.length then cs[i - (off + as.length * sz')]? else x[i]? := by
          intro i
          have htl : (x.toList.take (off + as.length * sz')).length = off + as.length * sz' := by simp; omega
          simp only [List.getElem?_toArray]
          by_cases hi : i < off + as.length * sz'
          · rw [List.append_assoc, List.getElem?_append_left (by omega), List.getElem?_take, if_pos hi, if_neg (by omega)]
            simp
          · by_cases hi2 : i < off + as.length * sz' + cs.length
            · rw [List.append_assoc, List.getElem?_append_right (by omega), htl, List.getElem?_append_left (by omega), if_pos (by omega)]
            · rw [List.getElem?_append_right (by simp; omega), List.getElem?_drop, if_neg (by omega), Array.getElem?_toList]
              congr 1
              simp
              omega
        generalize hy : (x.toList.take (off + as.length * sz') ++ cs ++ x.toList.drop (off + as.length * sz' + cs.length)).toArray = y at hynew
        -- the new stable cells
        refine ⟨fun k o => if k = b ∧ off + as.length * sz' ≤ o ∧ o < off + as.length * sz' + cs.length then cs[o - (off + as.length * sz')]? else S k o, setO ω b (.grp gid), ?_⟩
        have hleS : S.le (fun k o => if k = b ∧ off + as.length * sz' ≤ o ∧ o < off + as.length * sz' + cs.length then cs[o - (off + as.length * sz')]? else S k o) := by
          intro k o v hv
          (try simp only)
          rw [if_neg]
          · exact hv
          · rintro ⟨rfl, h1, _⟩
            rw [g6 o h1] at hv
            simp at hv
        have hysz : y.size = x.size := by
          rw [← hy]
          simp
          omega
        refine H.regrp hd hU (fun k o v hv => ?_) (Gro.setRow hr _) hleS (fun k hk hkg => ?_) (fun k hk hkg => ?_) (fun k hk => ?_) ?_ ?_
        · (try simp only at hv)
          split at hv
          · rename_i hc'
            obtain ⟨rfl, h1, h2⟩ := hc'
            rw [hr.setRow.cell, hynew, if_pos ⟨h1, h2⟩]
            exact hv
          · rename_i hc'
            by_cases hkb : k = b
            · subst hkb
              have hcell := H.wf k o v hv
              rw [hr.cell] at hcell
              rw [hr.setRow.cell, hynew, if_neg (fun h => hc' ⟨rfl, h⟩)]
              exact hcell
            · rw [cell_of_heap (setRow_old w b y hkb)]
              exact H.wf k o v hv
        · have hkb : k ≠ b := by rintro rfl; exact hkg g rfl g5
          exact ⟨setRow_old w b y hkb, fun o => by (try simp only); rw [if_neg (fun h => hkb h.1)]⟩
        · unfold setO
          rw [if_neg]
          rintro rfl
          exact hkg g rfl g5
        · unfold setO at hk
          split at hk
          · rename_i hkb; subst hkb
            have := H.mine k (by rw [g5]; simp)
            exact ⟨.inr (this.1.grp g5), by simpa using this.2⟩
          · rename_i hkb
            have := H.mine k hk
            exact ⟨this.1.of_eq (by unfold setO; rw [if_neg hkb]), by simpa using this.2⟩
        · -- the value
          simp only [VR] at hx ⊢
          obtain ⟨a2, cap2, he, hc2, hn2, hs2⟩ := hx
          simp only [Value.slice.injEq] at he
          obtain ⟨rfl, _, rfl⟩ := he
          refine ⟨some ⟨b, off, none⟩, cap, by simp, by simpa using hlt, (fun h => by cases h), fun q hq => ?_⟩
          simp only [Option.some.injEq] at hq
          subst hq
          obtain ⟨_, sz2, hel⟩ := hs2 _ rfl
          refine ⟨fun _ => rfl, sz', ?_⟩
          have hels : ElsAt S β as b off sz' := by
            by_cases hne : as = []
            · subst hne; simp [ElsAt]
            · have := els_size hel hoa hne
              subst this
              exact hel
          refine ElsAt.append (ElsAt.mono hleS (Ext.refl β) _ _ _ _ hels) (.of_get fun i x' hx' => ?_)
          obtain ⟨v', hv1, hv2, hv3⟩ := hf.2.1 i x' hx'
          refine ⟨v', VR.mono hleS (Ext.refl β) _ _ hv1, hv2, fun j u hu => ?_⟩
          have hcs := hv3 j u (by simpa using hu)
          simp only [List.getElem?_toArray] at hcs
          have hlt' : i * sz' + j < cs.length := by
            rcases Nat.lt_or_ge (i * sz' + j) cs.length with h | h
            · exact h
            · rw [List.getElem?_eq_none h] at hcs; simp at hcs
          (try simp only)
          rw [if_pos ⟨by trivial, by omega, by omega⟩]
          rw [show off + as.length * sz' + i * sz' + j - (off + as.length * sz') = i * sz' + j by omega]
          exact hcs
        · refine ⟨some ⟨b, off, none⟩, as.length + bs.length, cap, rfl, hlt, (fun h => by cases h), .inr ⟨sz', b, off, y, rfl, rfl, hr.setRow, by rw [hysz]; exact hc, by simp [setO], fun o ho => ?_⟩⟩
          (try simp only)
          rw [Nat.add_mul] at ho
          rw [if_neg (by omega)]
          exact g6 o (by omega)
  | fresh x t cap hlt hc hr hb =>
    have H2 := (H.drew).allocS x t ((as ++ bs).length * sz)
    have hsz : w.drew.heap.size = w.heap.size := rfl
    have hωn : ω w.heap.size = .no := by
      cases ho : ω w.heap.size with
      | no => rfl
      | _ => have := (H.mine w.heap.size (by rw [ho]; simp)).2; omega
    have hle : (as.length + bs.length) * sz ≤ cap * sz := Nat.mul_le_mul_right _ hlt
    refine ⟨S.withRowTo w.heap.size ((as ++ bs).length * sz) x, setO ω w.heap.size (.grp gid), H.regrp hd hU H2.wf ((Gro.drew w).trans (Gro.alloc w.drew x t)) ?_ (fun k hk _ => ⟨by rw [alloc_old _ _ (by simpa using hk)]; rfl, fun o => ?_⟩) (fun k hk _ => ?_) (fun k hk => ?_) ?_ ?_⟩
    · intro k o v hv
      unfold Stab.withRowTo
      split
      · rename_i hk; subst hk; rw [H.wf.none (Nat.le_refl _)] at hv; simp at hv
      · exact hv
    · unfold Stab.withRowTo; rw [if_neg (by omega)]
    · unfold setO
      rw [if_neg]
      rintro rfl
      exact hk hωn
    · unfold setO at hk
      split at hk
      · rename_i hkk; subst hkk; exact ⟨.inr H.size, by simp⟩
      · rename_i hkk
        have := H.mine k hk
        exact ⟨this.1.of_eq (by unfold setO; rw [if_neg hkk]), by simp; omega⟩
    · simp only [VR]
      refine ⟨some ⟨w.heap.size, 0, none⟩, cap, by simp, by simpa using hlt, (fun h => by cases h), fun q hq => ?_⟩
      simp only [Option.some.injEq] at hq
      subst hq
      refine ⟨fun _ => rfl, sz, .of_get fun i x' hx' => ?_⟩
      obtain ⟨v', hv1, hv2, hv3⟩ := hr i x' hx'
      have hi : i < (as ++ bs).length := by
        rcases Nat.lt_or_ge i (as ++ bs).length with h | h
        · exact h
        · rw [List.getElem?_eq_none h] at hx'; simp at hx'
      refine ⟨v', VR.mono (fun k o v hv => ?_) (Ext.refl β) _ _ hv1, hv2, fun j u hu => ?_⟩
      · unfold Stab.withRowTo
        split
        · rename_i hk; subst hk; rw [H.wf.none (Nat.le_refl _)] at hv; simp at hv
        · exact hv
      · have hj : j < sz := by
          rcases Nat.lt_or_ge j v'.cells.toList.length with h | h
          · simp [hv2] at h; exact h
          · rw [List.getElem?_eq_none h] at hu; simp at hu
        have hm : (i + 1) * sz ≤ (as ++ bs).length * sz := Nat.mul_le_mul_right _ hi
        rw [Nat.add_mul] at hm
        unfold Stab.withRowTo
        rw [if_pos rfl, if_pos (Nat.lt_of_lt_of_le (show 0 + i * sz + j < i * sz + 1 * sz by omega) hm), Nat.zero_add]
        exact hv3 j u (by simpa using hu)
    · refine ⟨some ⟨w.heap.size, 0, none⟩, as.length + bs.length, cap, rfl, hlt, (fun h => by cases h), .inr ⟨sz, w.heap.size, 0, x, rfl, rfl, Row.new w.drew x t, by omega, by simp [setO], fun o ho => ?_⟩⟩
      unfold Stab.withRowTo
      rw [if_pos rfl, if_neg]
      rw [List.length_append]
      exact Nat.not_lt.2 (by simpa using ho)
end
end Go.Av

/- One operation of the abstract evaluator is right. Conditions: the table of types is the program's; the calls are right. -/
namespace Go.Av
variable [Dr]
def HOwn (β : List Blk) (h : Hp) (b : Nat) : Prop := ∃ (l : Nat) (cs : List AV) (n : Nat), h[l]? = some cs ∧ cs ≠ [] ∧ β[l]? = some (b, n)
def HeapX (S : Stab) (β : List Blk) (w : World) (h : Hp) : Prop := β.length = h.length ∧ ∃ ω, HeapR S β w ω h
def GOK (β : List Blk) (h : Hp) (w : World) : Prop := GOKw w ∧ ∀ b, b < gN → ¬ HOwn β h b
structure Left (E : Nat → Prop) (S : Stab) (β : List Blk) (w : World) (S' : Stab) (β' : List Blk) (w' : World) (h' : Hp) : Prop where
  le : S.le S'
  ext : Ext β β'
  wf : Wf S' w'
  gro : Gro w w'
  keep : ∀ b, b < w.heap.size → ¬ E b → w'.heap[b]? = w.heap[b]? ∧ ∀ o, S' b o = S b o
  heap : HeapX S' β' w' h'
  owned : ∀ b, HOwn β' h' b → E b ∨ w.heap.size ≤ b
theorem Left.size {E : Nat → Prop} {S : Stab} {β : List Blk} {w : World} {S' : Stab} {β' : List Blk} {w' : World} {h' : Hp} (L : Left E S β w S' β' w' h') : w.heap.size ≤ w'.heap.size := L.gro.size
def OwnedR (n0 : Nat) (S' : Stab) (β' : List Blk) (w' : World) (h' : Hp) (sz : Nat) (v : Value) : Prop :=
  ∃ a len cap, v = .slice a len cap ∧ len ≤ cap ∧ (a = none → cap = 0) ∧ (len = cap ∨ ∃ b off x, a = some ⟨b, off, none⟩ ∧ Row w' b x ∧ off + cap * sz ≤ x.size ∧ n0 ≤ b ∧ ¬ HOwn β' h' b ∧
    ∀ o, off + len * sz ≤ o → S' b o = none)
def CPost (own : Option Nat) (S : Stab) (β : List Blk) (h : Hp) (w : World) (r : R AV) (en : Ending) (w' : World) : Prop :=
  match r with
  | .ok rv h' => ∃ S' β' v, en = .returned v ∧ VR S' β' rv v ∧ Left (HOwn β h) S β w S' β' w' h' ∧ ∀ sz, own = some sz → OwnedR w.heap.size S' β' w' h' sz v
  | .pan pv h' => ∃ S' β' v, en = .panicked [{ v, recovered := false }] ∧ VR S' β' pv v ∧ Left (HOwn β h) S β w S' β' w' h'
  | .fail => False
def CallsOK (P : Program) (own : FuncId → Option Nat) (call : FuncId → List AV → M AV) : Prop :=
  ∀ (f : FuncId) (args : List AV) (h : Hp) (S : Stab) (β : List Blk) (w : World) (vs : List Value), call f args h ≠ .fail → GOK β h w → Wf S w → HeapX S β w h → VRs S β args vs →
    Calls P f vs.toArray w (CPost (own f) S β h w (call f args h)) ∧ (P.funcs[f]?).any (fun fn => fn.body.isSome && !(fn.name == "runtime.NumGoroutine")) = true
section
variable {c : Entry} {N : Nat} {U : Nat → Prop} {e : Env} {h : Hp} {a : Act} {w : World} {S : Stab} {β : List Blk} {γ : Nat → Value} {lam : Nat → Option Nat} {ω : Nat → Owner}
theorem FR.hown (H : FR c N U e h a w S β γ lam ω) {b : Nat} (hb : HOwn β h b) : ∃ l n, ω b = .heap l ∧ b < w.heap.size ∧ β[l]? = some (b, n) ∧ ∀ o, S b o = none := by
  obtain ⟨l, cs, n, h1, h2, h3⟩ := hb
  obtain ⟨b', x, k1, k2, k3, k5⟩ := H.heap.own h1 h2
  rw [h3] at k1; cases k1
  exact ⟨l, n, k3, k2, h3, k5⟩
theorem FR.heapX (H : FR c N U e h a w S β γ lam ω) : HeapX S β w h := ⟨H.hlen, ω, H.heap⟩
open Classical in
theorem FR.left (H : FR c N U e h a w S β γ lam ω) {S' : Stab} {β' : List Blk} {w' : World} {h' : Hp} (L : Left (HOwn β h) S β w S' β' w' h') :
    ∃ ω', FR c N U e h' a w' S' β' γ lam ω' ∧ (∀ b, w.heap.size ≤ b → ¬ HOwn β' h' b → ω' b = .no) := by
  obtain ⟨hlen, ω2, hh⟩ := L.heap
  have hnb : ∀ b, ω b ≠ .no → (∀ l, ω b ≠ .heap l) → ¬ HOwn β h b ∧ ¬ HOwn β' h' b ∧ b < w.heap.size := by
    intro b hb hl
    have hlt := (H.mine b hb).2
    have h1 : ¬ HOwn β h b := fun ho => by obtain ⟨l, _, h3, _⟩ := H.hown ho; exact hl l h3
    refine ⟨h1, fun ho => ?_, hlt⟩
    rcases L.owned b ho with h2 | h2
    · exact h1 h2
    · omega
  let ω' : Nat → Owner := fun b => if HOwn β' h' b then ω2 b else match ω b with | .heap _ => .no | o => o
  have hω' : ∀ b, ω b ≠ .no → (∀ l, ω b ≠ .heap l) → ω' b = ω b := by
    intro b hb hl
    obtain ⟨_, h2, _⟩ := hnb b hb hl
    show (if HOwn β' h' b then ω2 b else _) = _
    rw [if_neg h2]
    cases ho : ω b <;> first | rfl | exact absurd ho (hl _)
  have hrow : ∀ {b x}, Row w b x → ω b ≠ .no → (∀ l, ω b ≠ .heap l) → Row w' b x ∧ ∀ o, S' b o = S b o := by
    intro b x hr hb hl
    obtain ⟨h1, _, h3⟩ := hnb b hb hl
    exact ⟨hr.of_eq (L.keep b h3 h1).1, (L.keep b h3 h1).2⟩
  refine ⟨ω', ⟨L.wf, H.gro.trans L.gro, fun b hb hE => ?_, Stab.le_trans H.le L.le, Ext.trans H.ext L.ext, hlen, ?_, H.tsz, ?_, H.grps, ?_, ?_, ?_, H.used⟩, ?_⟩
  · have h1 : ¬ HOwn β h b := fun ho => by
      obtain ⟨l, _, h3, _⟩ := H.hown ho
      rcases (H.mine b (by rw [h3]; simp)).1.low with h | h
      · exact hE h
      · omega
    have h2 := L.keep b (Nat.lt_of_lt_of_le hb H.size) h1
    have h3 := H.keep b hb hE
    exact ⟨h2.1.trans h3.1, fun o => (h2.2 o).trans (h3.2 o)⟩
  · intro l cs hl hne
    have hown : ∀ b n, β'[l]? = some (b, n) → ω2 b = .heap l → ω' b = .heap l := fun b n h1 h3 => by
      show (if HOwn β' h' b then ω2 b else _) = _
      rw [if_pos ⟨l, cs, _, hl, hne, h1⟩]
      exact h3
    rcases hh l cs hl hne with ⟨b, x, h1, h2, h3, h4⟩ | ⟨b, h1, h3, h4⟩
    · exact .inl ⟨b, x, h1, h2, hown b _ h1 h3, h4⟩
    · exact .inr ⟨b, h1, hown b _ h1 h3, h4⟩
  · intro t ht
    have := H.slots t ht
    cases hv : (e.get t).v with
    | val av => rw [hv] at this; exact VR.mono L.le L.ext _ _ this
    | loc B off => rw [hv] at this; exact this
  · intro B n hB
    obtain ⟨k1, k2, k3, b, x, k4, k5, k6, k7, k8⟩ := H.lblk B n hB
    have hr := hrow k5 (by rw [k6]; simp) (by rw [k6]; simp)
    refine ⟨k1, k2, k3, b, x, k4, hr.1, by rw [hω' b (by rw [k6]; simp) (by rw [k6]; simp)]; exact k6, fun o => by rw [hr.2]; exact k7 o, fun i hi => ?_⟩
    obtain ⟨v, a', g1, g2, g3, g4⟩ := k8 i hi
    exact ⟨v, a', g1, g2, VR.mono L.le L.ext _ _ g3, g4⟩
  · intro g z hg
    obtain ⟨a', len, cap, g1, g2, g3, g4⟩ := H.free g z hg
    refine ⟨a', len, cap, g1, g2, g3, g4.imp id ?_⟩
    rintro ⟨sz, b, off, x, k1, k2, k3, k4, k5, k6⟩
    have hr := hrow k3 (by rw [k5]; simp) (by rw [k5]; simp)
    exact ⟨sz, b, off, x, k1, k2, hr.1, k4, by rw [hω' b (by rw [k5]; simp) (by rw [k5]; simp)]; exact k5, fun o ho => by rw [hr.2]; exact k6 o ho⟩
  · intro b hb
    by_cases ho : HOwn β' h' b
    · have hlt : b < w'.heap.size ∧ ∃ l, ω2 b = .heap l := by
        obtain ⟨l, cs, n, h1, h2, h3⟩ := ho
        obtain ⟨b', x, k1, k2, k3, _⟩ := hh.own h1 h2
        rw [h3] at k1; cases k1
        exact ⟨k2, l, k3⟩
      obtain ⟨hlt, l2, hl2⟩ := hlt
      refine ⟨?_, hlt⟩
      rcases L.owned b ho with h1 | h1
      · obtain ⟨l, _, h3, _⟩ := H.hown h1
        refine (H.mine b (by rw [h3]; simp)).1.of_not fun g => ?_
        show (if HOwn β' h' b then ω2 b else _) ≠ _
        rw [if_pos ho, hl2]
        simp
      · exact .inr (Nat.le_trans H.size h1)
    · have hb' : (match ω b with | .heap _ => .no | o => o) ≠ Owner.no := by
        have : ω' b = (match ω b with | .heap _ => .no | o => o) := by
          show (if HOwn β' h' b then ω2 b else _) = _
          rw [if_neg ho]
        rw [← this]; exact hb
      have : ω b ≠ .no := by
        intro hn; rw [hn] at hb'; exact hb' rfl
      exact ⟨(H.mine b this).1.of_eq (hω' b this fun l hl => by rw [hl] at hb'; exact hb' rfl), Nat.lt_of_lt_of_le (H.mine b this).2 L.size⟩
  · intro b hb hn
    show (if HOwn β' h' b then ω2 b else _) = _
    rw [if_neg hn]
    cases ho : ω b with
    | no => rfl
    | heap l => rfl
    | loc B => have := (H.mine b (by rw [ho]; simp)).2; omega
    | grp g => have := (H.mine b (by rw [ho]; simp)).2; omega
end
theorem FR.gok {c : Entry} {N : Nat} {U : Nat → Prop} {e : Env} {h : Hp} {a : Act} {w : World} {S : Stab} {β : List Blk} {γ : Nat → Value} {lam : Nat → Option Nat} {ω : Nat → Owner} (H : FR c N U e h a w S β γ lam ω) : GOK β h w :=
  ⟨H.gokw, fun b hb ho => by
    obtain ⟨l, _, h3, _⟩ := H.hown ho
    rcases (H.mine b (by rw [h3]; simp)).1.low with h | h
    · exact c.gok.2 b hb h
    · have := c.gok.1.lt; omega⟩
def Out (c : Entry) (h' : Hp) (w' : World) (S' : Stab) (β' : List Blk) : Prop := Left c.E c.S c.β c.w S' β' w' h'
theorem FR.out {c : Entry} {N : Nat} {U : Nat → Prop} {e : Env} {h : Hp} {a : Act} {w : World} {S : Stab} {β : List Blk} {γ : Nat → Value} {lam : Nat → Option Nat} {ω : Nat → Owner}
    (H : FR c N U e h a w S β γ lam ω) : Out c h w S β :=
  ⟨H.le, H.ext, H.wf, H.gro, H.keep, H.heapX, fun b hb => by
    obtain ⟨l, _, h3, _⟩ := H.hown hb
    exact (H.mine b (by rw [h3]; simp)).1.low⟩
def Sat (c : Entry) (N : Nat) (U : Nat → Prop) (e : Env) (h : Hp) (a : Act) (w : World) : Prop := ∃ S β γ lam ω, FR c N U e h a w S β γ lam ω
def UG (U : Nat → Prop) (gid : Nat) : Nat → Prop := fun g => U g ∨ (gid ≤ g ∧ g < gid + 1000)
theorem FR.wider {c : Entry} {N : Nat} {U V : Nat → Prop} {e : Env} {h : Hp} {a : Act} {w : World} {S : Stab} {β : List Blk} {γ : Nat → Value} {lam : Nat → Option Nat} {ω : Nat → Owner}
    (H : FR c N U e h a w S β γ lam ω) (hUV : ∀ g, U g → V g) : FR c N V e h a w S β γ lam ω :=
  ⟨H.wf, H.gro, H.keep, H.le, H.ext, H.hlen, H.heap, H.tsz, H.slots, H.grps, H.lblk, H.free, H.mine, ⟨fun t g hg => hUV g (H.used.1 t g hg), fun g z hg => hUV g (H.used.2 g z hg)⟩⟩
theorem Sat.wider {c : Entry} {N : Nat} {U V : Nat → Prop} {e : Env} {h : Hp} {a : Act} {w : World} (H : Sat c N U e h a w) (hUV : ∀ g, U g → V g) : Sat c N V e h a w :=
  let ⟨S, β, γ, lam, ω, F⟩ := H; ⟨S, β, γ, lam, ω, F.wider hUV⟩
def PanSat (c : Entry) (pv : AV) (h' : Hp) (v : Value) (w' : World) : Prop := ∃ S' β', Out c h' w' S' β' ∧ VR S' β' pv v
def After (P : Program) (c : Entry) (N : Nat) (U : Nat → Prop) (r : R Env) (o : Oper) (a : Act) (w : World) : Prop :=
  ∀ (next : Act → World → Prop) (Q : Exit → Act → World → Prop), (∀ e' h' a' w', r = .ok e' h' → Sat c N U e' h' a' w' → a'.defers = a.defers → next a' w') →
    (∀ pv h' v w', r = .pan pv h' → PanSat c pv h' v w' → Q (.panic [{ v, recovered := false }]) a w') → o.wp P a w next Q
omit [Dr] in
theorem put_defers (a : Act) (d : Option Tmp) (v : Value) : (a.put d v).defers = a.defers := by cases d <;> rfl
theorem After.val {P : Program} {c : Entry} {N : Nat} {U : Nat → Prop} {e' : Env} {h' : Hp} {o : Oper} {a : Act} {w w' : World} {v : Value}
    (hrun : (execOp a.eval o).run P w = .ok (.value v) w') (H : Sat c N U e' h' (a.put o.dst v) w') : After P c N U (.ok e' h') o a w := by
  intro next Q hn _
  unfold Oper.wp
  rw [hrun]
  exact hn e' h' _ _ rfl H (put_defers a o.dst v)
theorem After.skip {P : Program} {c : Entry} {N : Nat} {U : Nat → Prop} {e' : Env} {h' : Hp} {o : Oper} {a : Act} {w w' : World} (hd : o.dst = none)
    (hrun : (execOp a.eval o).run P w = .ok .skip w') (H : Sat c N U e' h' a w') : After P c N U (.ok e' h') o a w := by
  intro next Q hn _
  unfold Oper.wp
  rw [hrun]
  have : a.put o.dst undef = a := by rw [hd]; rfl
  simp only [Oper.upon]
  rw [this]
  exact hn e' h' _ _ rfl H rfl
end Go.Av

/- One operation: each kind. Conditions: the table of types is the program's; the calls are right. -/
namespace Go.Av
variable [Dr]
section
variable {P : Program} {cx : Cx} {c : Entry} {N : Nat} {U : Nat → Prop} {e : Env} {h : Hp} {a : Act} {w : World} {S : Stab} {β : List Blk} {γ : Nat → Value} {lam : Nat → Option Nat} {ω : Nat → Owner} {o : Oper} {gid : Nat}
theorem opnd_ok (H : FR c N U e h a w S β γ lam ω) (x : Operand) (ht : ∀ t, x = .tmp t → t < 1000) : VR S β (opnd e x) (a.eval x) := by
  cases x with
  | tmp t =>
    have := H.slots t (ht t rfl)
    simp only [opnd, Env.av, Ent.av, Act.eval]
    cases hv : (e.get t).v with
    | val av => rw [hv] at this; exact this
    | loc B off => simp [VR]
  | const v => exact VR_cA S β v
  | global g => simp [opnd, VR]
  | func f => simp only [opnd, VR, Act.eval]; exact ⟨[], [], rfl, by simp [VRs], by simp [VRs]⟩
theorem opnds_ok (H : FR c N U e h a w S β γ lam ω) : (xs : List Operand) → (∀ x ∈ xs, ∀ t, x = .tmp t → t < 1000) → VRs S β (xs.map (opnd e)) (xs.map a.eval)
  | [], _ => by simp [VRs]
  | x :: xs, ht => by
    simp only [List.map_cons, VRs]
    exact ⟨_, _, rfl, opnd_ok H x (ht x (by simp)), opnds_ok H xs fun y hy => ht y (by simp [hy])⟩
theorem optR_ok (H : FR c N U e h a w S β γ lam ω) (x : Option Operand) (ht : ∀ y, x = some y → ∀ t, y = .tmp t → t < 1000) : OptR S β (x.map (opnd e)) (x.map a.eval) := by
  cases x with
  | none => rfl
  | some y => exact ⟨_, rfl, opnd_ok H y (ht y rfl)⟩
theorem Sat.up (H : Sat c N U e h a w) : Sat c N (UG U gid) e h a w := H.wider fun _ h => .inl h
theorem pure_op (H : FR c N U e h a w S β γ lam ω) (hd : ∀ t, o.dst = some t → t < N) {r : Option AV} {m : Sem Value} (hrun : execOp a.eval o = (do pure (.value (← m)))) (hp : ∀ x, r = some x → Pur P w S β m x)
    (hr : (bnd (lft r) fun v => M.pure (e.upd o.dst (.ofV v))) h ≠ .fail) : After P c N (UG U gid) ((bnd (lft r) fun v => M.pure (e.upd o.dst (.ofV v))) h) o a w := by
  cases r with
  | none => exact absurd rfl hr
  | some x =>
    obtain ⟨v, h1, h2⟩ := hp x rfl
    exact After.val (v := v) (w' := w) (by rw [hrun]; simp only [Sem.run_bind, h1, Result.andThen_ok, Sem.run_pure]) (Sat.up ⟨S, β, γ, lam, ω, H.setV hd h2⟩)
theorem copy_op (H : FR c N U e h a w S β γ lam ω) (hd : ∀ t, o.dst = some t → t < N) {t : Nat} (ht : t < 1000) (hrun : (execOp a.eval o).run P w = .ok (.value (a.tmps.getD t undef)) w) :
    After P c N (UG U gid) (.ok (e.upd o.dst { ent := e.get t }) h) o a w :=
  After.val hrun (Sat.up ⟨S, β, γ, lam, ω, H.set hd (H.slots t ht) (fun g z hg hz => H.grps t g z ht hg hz) (fun g hg => H.used.1 t g hg)⟩)
theorem move_op (H : FR c N U e h a w S β γ lam ω) (hd : ∀ t, o.dst = some t → t < N) (hU : ∀ g, gid ≤ g → g < gid + 1000 → ¬ U g) {x : Operand} (hx : o.op = .move x ∨ o.op = .assign x) (ht : ∀ t, x = .tmp t → t < 1000) :
    After P c N (UG U gid) (runOp cx e gid o h) o a w := by
  have hrun : (execOp a.eval o).run P w = .ok (.value (a.eval x)) w := by rcases hx with hx | hx <;> simp [execOp, hx]
  have hop : runOp cx e gid o = runAct e o.dst (opMove (memO cx.ann.hb o.dst) e gid x) := by unfold runOp opD; rcases hx with hx | hx <;> rw [hx]
  rw [hop]
  unfold opMove
  cases x with
  | tmp t => exact copy_op H hd (ht t rfl) hrun
  | const v =>
    simp only
    cases hn : isNilConst (.const v) with
    | true =>
      have hv : v = .slice none 0 0 := by
        unfold isNilConst at hn
        split at hn
        · rename_i hq; simpa using hq
        · simp at hn
      subst hv
      simp only [cond_true]
      cases htold : memO cx.ann.hb o.dst with
      | true => exact After.val hrun (Sat.up ⟨S, β, γ, lam, ω, H.setV hd (by simp only [VR]; rfl)⟩)
      | false =>
      simp only [cond_false]
      obtain ⟨ω', F⟩ := H.own (v := .slice none 0 0) (r := .sl []) (z := none) hd (by simp only [VR]; exact ⟨none, 0, rfl, Nat.le_refl _, fun _ => rfl, fun q h => by cases h⟩) hU (.inl ⟨none, 0, rfl, fun _ => rfl⟩)
      exact After.val hrun ⟨S, β, _, lam, ω', F⟩
    | false =>
      simp only [cond_false]
      exact After.val hrun (Sat.up ⟨S, β, γ, lam, ω, H.setV hd (opnd_ok H _ (fun t h => by cases h))⟩)
  | global g =>
    exact After.val hrun (Sat.up ⟨S, β, γ, lam, ω, H.setV hd (opnd_ok H _ (fun t h => by cases h))⟩)
  | func f =>
    exact After.val hrun (Sat.up ⟨S, β, γ, lam, ω, H.setV hd (opnd_ok H _ (fun t h => by cases h))⟩)
omit [Dr] in
theorem VRs.allR {S : Stab} {β : List Blk} {cs : List AV} {vs : List Value} (h : VRs S β cs vs) : ∀ i, i < cs.length → ∃ v, vs[i]? = some v ∧ VR S β (nth cs i) v := by
  intro i hi
  obtain ⟨v, h1, h2⟩ := h.get (List.getElem?_eq_getElem hi)
  refine ⟨v, h1, ?_⟩
  unfold nth
  rw [List.getD_eq_getElem?_getD, List.getElem?_eq_getElem hi]
  exact h2
theorem partsR_ok (H : FR c N U e h a w S β γ lam ω) : (ps : List (Nat × Operand)) → (∀ p ∈ ps, ∀ t, p.2 = .tmp t → t < 1000) → PartsR S β (ps.map fun p => (p.1, opnd e p.2)) (ps.map fun p => (p.1, a.eval p.2))
  | [], _ => rfl
  | (i, x) :: ps, ht => by
    simp only [List.map_cons, PartsR]
    exact ⟨_, _, rfl, opnd_ok H x (ht (i, x) (by simp)), partsR_ok H ps fun q hq => ht q (by simp [hq])⟩
theorem buildSlice_op (hT : TOK P cx.T) (H : FR c N U e h a w S β γ lam ω) (hd : ∀ t, o.dst = some t → t < N) (hU : ∀ g, gid ≤ g → g < gid + 1000 → ¬ U g) {t n : Nat} {ps : Array (Nat × Operand)} (ho : o.op = .buildSlice t n ps)
    (ht : ∀ p ∈ ps.toList, ∀ t, p.2 = .tmp t → t < 1000) (hha : memO cx.ann.ha o.dst = false) (hr : runOp cx e gid o h ≠ .fail) : After P c N (UG U gid) (runOp cx e gid o h) o a w := by
  unfold runOp opD at hr ⊢
  rw [ho] at hr ⊢
  simp only [hha, cond_false] at hr ⊢
  cases hb : buildSliceA cx.T t n (ps.toList.map fun p => (p.1, opnd e p.2)) with
  | none => rw [hb] at hr; exact absurd rfl hr
  | some r =>
    obtain ⟨es, x, el, sz, rfl, hlen, hrow, hrun⟩ := buildSlice_ok (w := w) (qs := ps.map fun p => (p.1, a.eval p.2)) hT hb (by simpa using partsR_ok H ps.toList ht)
    have H2 := H.allocS x el x.size
    have hv : VR (S.withRowTo w.heap.size x.size x) β (.sl es) (.slice (some ⟨w.heap.size, 0, none⟩) n n) := by
      simp only [VR]
      refine ⟨_, n, by rw [hlen], by omega, (fun h => by cases h), fun q hq => ?_⟩
      simp only [Option.some.injEq] at hq; subst hq
      refine ⟨fun _ => rfl, sz, hrow.at (fun k o v hv => ?_) (fun o y hy => ?_)⟩
      · unfold Stab.withRowTo
        split
        · rename_i hk; subst hk; rw [H.wf.none (Nat.le_refl _)] at hv; simp at hv
        · exact hv
      · unfold Stab.withRowTo
        rw [if_pos rfl, if_pos]
        · exact hy
        · rcases Nat.lt_or_ge o x.size with h | h
          · exact h
          · rw [Array.getElem?_eq_none h] at hy; simp at hy
    have hex : (execOp a.eval o).run P w = .ok (.value (.slice (some ⟨w.heap.size, 0, none⟩) n n)) (w.alloc (.cells x el)) := by
      simp only [execOp, ho, Sem.run_bind, hrun, Result.andThen_ok, Sem.run_pure]
    simp only [runAct, lft, bnd, M.pure]
    cases hno : memO cx.ann.no o.dst with
    | true =>
      simp only [cond_true]
      exact After.val hex (Sat.up ⟨_, _, _, _, _, H2.setV hd hv⟩)
    | false =>
      simp only [cond_false]
      obtain ⟨ω', F⟩ := H2.own (z := none) hd hv hU (.inl ⟨_, _, rfl, fun h => by cases h⟩)
      exact After.val hex ⟨_, _, _, _, ω', F⟩
theorem makeSlice_op (hT : TOK P cx.T) (H : FR c N U e h a w S β γ lam ω) (hd : ∀ t, o.dst = some t → t < N) (hU : ∀ g, gid ≤ g → g < gid + 1000 → ¬ U g) {t : Nat} {l k : Operand} (ho : o.op = .makeSlice t l k)
    (hl : ∀ t, l = .tmp t → t < 1000) (hk : ∀ t, k = .tmp t → t < 1000) (hr : runOp cx e gid o h ≠ .fail) : After P c N (UG U gid) (runOp cx e gid o h) o a w := by
  unfold runOp opD at hr ⊢
  rw [ho] at hr ⊢
  simp only at hr ⊢
  cases hb : makeSliceA cx.T t (opnd e l) (opnd e k) with
  | none => rw [hb] at hr; exact absurd rfl hr
  | some r =>
    obtain ⟨es, x, el, sz, cap, rfl, hes, hlen, hxs, hrow, hrun⟩ := makeSlice_ok (w := w) hT hb (opnd_ok H l hl) (opnd_ok H k hk)
    have H2 := H.allocS x el (es.length * sz)
    have hle : es.length * sz ≤ cap * sz := Nat.mul_le_mul_right _ hlen
    have hv : VR (S.withRowTo w.heap.size (es.length * sz) x) β (.sl es) (.slice (some ⟨w.heap.size, 0, none⟩) es.length cap) := by
      simp only [VR]
      refine ⟨_, cap, rfl, hlen, (fun h => by cases h), fun q hq => ?_⟩
      simp only [Option.some.injEq] at hq; subst hq
      refine ⟨fun _ => rfl, sz, .of_get fun i y hy => ?_⟩
      obtain ⟨v, v1, v2, v3⟩ := hrow i y hy
      have hi : i < es.length := by
        rcases Nat.lt_or_ge i es.length with h | h
        · exact h
        · rw [List.getElem?_eq_none h] at hy; simp at hy
      have hm : (i + 1) * sz ≤ es.length * sz := Nat.mul_le_mul_right _ hi
      rw [Nat.add_mul] at hm
      refine ⟨v, VR.mono (fun k o v hv => ?_) (Ext.refl β) _ _ v1, v2, fun j u hu => ?_⟩
      · unfold Stab.withRowTo
        split
        · rename_i hk; subst hk; rw [H.wf.none (Nat.le_refl _)] at hv; simp at hv
        · exact hv
      · have hj : j < sz := by
          rcases Nat.lt_or_ge j v.cells.toList.length with h | h
          · simp [v2] at h; exact h
          · rw [List.getElem?_eq_none h] at hu; simp at hu
        unfold Stab.withRowTo
        rw [if_pos rfl, if_pos (Nat.lt_of_lt_of_le (show 0 + i * sz + j < i * sz + 1 * sz by omega) hm), Nat.zero_add]
        exact v3 j u (by simpa using hu)
    have hωn : ω w.heap.size = .no := by
      cases hoo : ω w.heap.size with
      | no => rfl
      | _ => have := (H.mine w.heap.size (by rw [hoo]; simp)).2; omega
    obtain ⟨ω', F⟩ := H2.own (z := elemSize cx.T t) hd hv hU (.inr ⟨es.length, cap, sz, w.heap.size, 0, x, rfl, hlen, hes, Row.new w x el, by omega, hωn, H.size, fun o' ho' => by
      unfold Stab.withRowTo; rw [if_pos rfl, if_neg (by omega)]⟩)
    refine After.val (v := .slice (some ⟨w.heap.size, 0, none⟩) es.length cap) (w' := w.alloc (.cells x el)) ?_ ⟨_, _, _, _, ω', F⟩
    simp only [execOp, ho, Sem.run_bind, hrun, Result.andThen_ok, Sem.run_pure]
theorem slice_op (hT : TOK P cx.T) (H : FR c N U e h a w S β γ lam ω) (hd : ∀ t, o.dst = some t → t < N) (hU : ∀ g, gid ≤ g → g < gid + 1000 → ¬ U g) {t : Nat} {x : Operand} {lo hi mx : Option Operand} (ho : o.op = .slice t x lo hi mx)
    (hx : ∀ t, x = .tmp t → t < 1000) (hlo : ∀ y, lo = some y → ∀ t, y = .tmp t → t < 1000) (hhi : ∀ y, hi = some y → ∀ t, y = .tmp t → t < 1000) (hmx : ∀ y, mx = some y → ∀ t, y = .tmp t → t < 1000)
    (hso : memO cx.ann.so o.dst = false) (hr : runOp cx e gid o h ≠ .fail) : After P c N (UG U gid) (runOp cx e gid o h) o a w := by
  unfold runOp opD at hr ⊢
  rw [ho] at hr ⊢
  simp only [hso, cond_false] at hr ⊢
  cases hb : (bif memO cx.ann.hb o.dst then sliceT cx.T t (opnd e x) (lo.map (opnd e)) (hi.map (opnd e)) (mx.map (opnd e)) else sliceA cx.T t (opnd e x) (lo.map (opnd e)) (hi.map (opnd e)) (mx.map (opnd e))) with
  | none => rw [hb] at hr; exact absurd rfl hr
  | some r =>
    have hboth : ∃ v, (Instr.sliceAt t (a.eval x) (lo.map a.eval) (hi.map a.eval) (mx.map a.eval)).run P w = .ok v w ∧ VR S β r v ∧ ((mx.map (opnd e)).isSome = true → (∃ a n, v = .slice a n n) ∧ ∃ es, r = .sl es) := by
      cases htold : memO cx.ann.hb o.dst with
      | true => rw [htold] at hb; exact sliceT_ok (P := P) (w := w) hT hb (opnd_ok H x hx) (optR_ok H lo hlo) (optR_ok H hi hhi) (optR_ok H mx hmx)
      | false => rw [htold] at hb; exact slice_ok (P := P) (w := w) hT hb (opnd_ok H x hx) (optR_ok H lo hlo) (optR_ok H hi hhi) (optR_ok H mx hmx)
    obtain ⟨v, hrun, hv, hown⟩ := hboth
    have hrun' : (execOp a.eval o).run P w = .ok (.value v) w := by simp only [execOp, ho, Sem.run_bind, hrun, Result.andThen_ok, Sem.run_pure]
    cases mx with
    | none => exact After.val hrun' (Sat.up ⟨S, β, γ, lam, ω, H.setV hd hv⟩)
    | some m =>
      obtain ⟨⟨ad, n, rfl⟩, es, rfl⟩ := hown rfl
      have hn : ad = none → n = 0 := by
        rintro rfl
        have hv := hv
        simp only [VR] at hv
        obtain ⟨_, _, he, _, h2, _⟩ := hv
        simp only [Value.slice.injEq] at he
        obtain ⟨rfl, _, rfl⟩ := he
        exact h2 rfl
      obtain ⟨ω', F⟩ := H.own (z := none) hd hv hU (.inl ⟨ad, n, rfl, hn⟩)
      exact After.val hrun' ⟨_, _, _, _, ω', F⟩
end
end Go.Av

/- The pure part of the operations on maps is right. Condition: the table of types is the program's. -/
namespace Go.Av
section
variable {P : Program} {T : TT} {w : World} {S : Stab} {β : List Blk}
theorem forIn_ok {α : Type} {g : α → PUnit → Sem (ForInStep PUnit)} : ∀ (l : List α), (∀ x ∈ l, (g x ⟨⟩).run P w = .ok (.yield ⟨⟩) w) → (forIn l PUnit.unit g).run P w = .ok ⟨⟩ w
  | [], _ => by simp
  | x :: l, h => by
    rw [List.forIn_cons]
    simp only [Sem.run_bind, h x (by simp), Result.andThen_ok]
    exact forIn_ok l fun y hy => h y (by simp [hy])
theorem checkKey_ok (hT : TOK P T) : (d n : Nat) → d ≤ n → (t : TypeId) → (x : AV) → (v : Value) → (em : Bool) → ckV T d t x = true → VR S β x v → (Instr.checkKey em n t v).run P w = .ok () w
  | 0, _, _, t, x, v, em, h, _ => by simp [ckV] at h
  | d + 1, 0, hn, _, _, _, _, _, _ => by omega
  | d + 1, n + 1, hn, t, x, v, em, h, hx => by
    unfold ckV at h
    cases ht : T t with
    | none => rw [ht] at h; cases h
    | some ti =>
      rw [ht] at h
      simp only at h
      obtain ⟨i, dd, z, hi, hd, _, _, hsz, _, hk, hag, hof, _⟩ := (hT.get ht).ex
      unfold Instr.checkKey
      simp only [Sem.run_bind, run_underlying hd, Result.andThen_ok]
      split at h
      case h_1 hkk => cases dd <;> simp only [kindOf, hkk, reduceCtorEq] at hk; simp
      case h_2 hkk => cases dd <;> simp only [kindOf, hkk, reduceCtorEq] at hk; simp
      case h_3 hkk => cases dd <;> simp only [kindOf, hkk, reduceCtorEq] at hk; simp
      case h_4 hkk => cases dd <;> simp only [kindOf, hkk, reduceCtorEq] at hk; simp
      case h_5 cs hkk =>
        obtain ⟨fs, rfl⟩ : ∃ fs, dd = .struct fs := by cases dd <;> simp only [kindOf, hkk, reduceCtorEq] at hk; exact ⟨_, rfl⟩
        simp only [VR] at hx
        obtain ⟨vs, rfl, hvs⟩ := hx
        simp only
        rw [← hof, List.all_eq_true] at h
        have hall : ∀ f ∈ fs.toList, ((if f.name ≠ "_" then (do
              let y ← part f.type vs.toArray f.offset
              Instr.checkKey em n f.type y
              pure (ForInStep.yield PUnit.unit)) else pure (ForInStep.yield PUnit.unit)) : Sem (ForInStep PUnit)).run P w = .ok (.yield ⟨⟩) w := by
          intro f hf
          have := h (f.offset, f.type, decide (f.name ≠ "_")) (by simp only [offsOf, List.mem_map]; exact ⟨f, hf, rfl⟩)
          simp only at this
          split
          · cases htf : T f.type with
            | none => rw [htf] at this; cases this
            | some fi =>
              rw [htf] at this
              simp only at this
              cases hp : partA fi cs f.offset with
              | none => rw [hp] at this; cases this
              | some y =>
                rw [hp] at this
                obtain ⟨u, hu, hur⟩ := part_ok (P := P) (w := w) (S := S) (β := β) hT htf hvs hp
                simp only [Sem.run_bind, hu, Result.andThen_ok]
                rw [checkKey_ok hT d n (by omega) f.type y u em this hur]
                simp
          · simp
        have := forIn_ok (P := P) (w := w) (g := fun (f : Field) (_ : PUnit) => (if f.name ≠ "_" then (do
              let y ← part f.type vs.toArray f.offset
              Instr.checkKey em n f.type y
              pure (ForInStep.yield PUnit.unit)) else pure (ForInStep.yield PUnit.unit) : Sem (ForInStep PUnit))) fs.toList hall
        simp only [Array.forIn_toList] at this
        simp only [Sem.run_bind, this, Result.andThen_ok, Sem.run_pure]
      · cases h
theorem sameNow_eqA (w : World) (hT : TOK P T) {d : Nat} {t : Nat} {dd : TypeDesc} (hd : P.underlying t = some dd) {x y : AV} {vx vy : Value} {b b' : Bool} (h : eqA T (d + 1) t x y = some b) (hx : VR S β x vx) (hy : VR S β y vy) (hs : Instr.sameNow dd vx vy = some b') : b' = b := by
  have h0 := eqA_ok (P := P) (w := w) hT (d + 1) (d + 1) (Nat.le_refl _) t x y vx vy b h hx hy
  unfold Instr.sameNow at hs
  split at hs
  · split at hs
    · rename_i hkk
      simp only [Option.some.injEq] at hs
      subst hs
      simp [Op.equalIn, run_underlying hd, hkk] at h0
      exact h0
    · cases hs
  · simp only [Option.some.injEq] at hs
    subst hs
    simp [Op.equalIn, run_underlying hd] at h0
    exact h0
  · simp only [Option.some.injEq] at hs
    subst hs
    simp [Op.equalIn, run_underlying hd] at h0
    exact h0
  · cases hs
def FoundR (S : Stab) (β : List Blk) (ents : List MapEntry) (i0 : Nat) : Option (Nat × AV × AV) → Option (Nat × Value) → Prop
  | none, r => r = none
  | some (i, k, v), r => ∃ u x, r = some (i, u) ∧ i0 ≤ i ∧ ents[i - i0]? = some x ∧ VR S β k x.key ∧ VR S β v x.val ∧ u = x.val
theorem EntsR.cons {e : AV} {es : List AV} {ents : List MapEntry} (h : EntsR S β (e :: es) ents) : ∃ k v x ents', e = .tup [k, v] ∧ ents = x :: ents' ∧ VR S β k x.key ∧ VR S β v x.val ∧ EntsR S β es ents' := by
  obtain ⟨h1, h2⟩ := h
  cases ents with
  | nil => simp at h1
  | cons x ents' =>
    obtain ⟨k, v, g1, g2, g3⟩ := h2 0 e x rfl rfl
    exact ⟨k, v, x, ents', g1, rfl, g2, g3, by simpa using h1, fun i a b ha hb => h2 (i + 1) a b (by simpa using ha) (by simpa using hb)⟩
theorem findA_ok (hT : TOK P T) {kt : Nat} {dd : TypeDesc} (hd : P.underlying kt = some dd) {k : AV} {vk : Value} (hk : VR S β k vk) : ∀ (es : List AV) (ents : List MapEntry) (i : Nat) (r : Option (Nat × AV × AV)), findA T kt k es i = some r → EntsR S β es ents →
    ∃ r', FoundR S β ents i r r' ∧ (∀ r2, Instr.findNow dd vk ents i = some r2 → r2 = r') ∧ (Instr.findAsking kt vk ents i).run P w = .ok r' w
  | [], ents, i, r, h, he => by
    have : ents = [] := by simpa using he.1.symm
    subst this
    simp only [findA, Option.some.injEq] at h
    subst h
    exact ⟨none, rfl, fun r2 h2 => by simp [Instr.findNow] at h2; exact h2.symm, by simp [Instr.findAsking]⟩
  | e :: es, ents, i, r, h, he => by
    obtain ⟨k', v, x, ents', rfl, rfl, hk', hv, he'⟩ := he.cons
    simp only [findA] at h
    cases hq : eqA T 20 kt k k' with
    | none => rw [hq] at h; cases h
    | some b =>
      have heq := eqA_ok (P := P) (w := w) hT 20 Op.maxDepth (by decide) kt k k' vk x.key b hq hk hk'
      have hsn := fun b' => sameNow_eqA (P := P) (b' := b') w hT hd hq hk hk'
      rw [hq] at h
      cases b with
      | true =>
        simp only [Option.some.injEq] at h
        subst h
        refine ⟨some (i, x.val), ⟨x.val, x, rfl, Nat.le_refl _, by simp, hk', hv, rfl⟩, fun r2 h2 => ?_, ?_⟩
        · unfold Instr.findNow at h2
          split at h2
          · simpa using h2.symm
          · rename_i hs; have := hsn false hs; cases this
          · cases h2
        · unfold Instr.findAsking
          simp [Op.equal, heq]
      | false =>
        simp only at h
        obtain ⟨r', h1, h2, h3⟩ := findA_ok hT hd hk es ents' (i + 1) r h he'
        refine ⟨r', ?_, fun r2 hr2 => ?_, ?_⟩
        · cases r with
          | none => exact h1
          | some q =>
            obtain ⟨j, k2, v2⟩ := q
            obtain ⟨u, y, g1, g2, g3, g4⟩ := h1
            refine ⟨u, y, g1, by omega, ?_, g4⟩
            rw [show j - i = (j - (i + 1)) + 1 by omega]
            simpa using g3
        · unfold Instr.findNow at hr2
          split at hr2
          · rename_i hs; have := hsn true hs; cases this
          · exact h2 r2 hr2
          · cases hr2
        · unfold Instr.findAsking
          simp only [Op.equal, Sem.run_bind, heq, Result.andThen_ok, Bool.false_eq_true, if_false]
          exact h3
theorem findKey_ok (hT : TOK P T) {kt : Nat} {dd : TypeDesc} (hd : P.underlying kt = some dd) {k : AV} {vk : Value} (hk : VR S β k vk) {es : List AV} {ents : List MapEntry} {r : Option (Nat × AV × AV)} (h : findA T kt k es 0 = some r) (he : EntsR S β es ents) :
    ∃ r', FoundR S β ents 0 r r' ∧ (Instr.findKey kt vk ents).run P w = .ok r' w := by
  obtain ⟨r', h1, h2, h3⟩ := findA_ok (P := P) (w := w) hT hd hk es ents 0 r h he
  refine ⟨r', h1, ?_⟩
  unfold Instr.findKey
  simp only [Sem.run_bind, run_underlying hd, Result.andThen_ok]
  cases hn : Instr.findNow dd vk ents 0 with
  | none => exact h3
  | some r2 =>
    have := h2 r2 hn
    subst this
    simp
theorem same1_ok {x y : AV} (h : same1 x y = true) {v u : Value} (hx : VR S β x v) (hy : VR S β y u) : v = u ∧ x = y ∧ ∀ n, Instr.sameBits n v u = true := by
  unfold same1 at h
  split at h
  · simp only [VR] at hx hy
    have := eq_of_beq h
    subst this hx hy
    exact ⟨rfl, rfl, fun n => by cases n <;> simp [Instr.sameBits]⟩
  · simp only [VR] at hx hy
    simp only [Bool.and_eq_true, decide_eq_true_eq, beq_iff_eq] at h
    obtain ⟨rfl, rfl⟩ := h
    subst hx hy
    exact ⟨rfl, rfl, fun n => by cases n <;> simp [Instr.sameBits]⟩
  · simp only [VR] at hx hy
    have := eq_of_beq h
    subst this
    obtain ⟨x, rfl, hx⟩ := hx
    obtain ⟨y, rfl, hy⟩ := hy
    have : x = y := data_eq_iff.1 (hx.trans hy.symm)
    subst this
    exact ⟨rfl, rfl, fun n => by cases n <;> simp [Instr.sameBits, beq_toListBytes]⟩
  · cases h
theorem same1s_ok : ∀ {xs ys : List AV}, same1s xs ys = true → ∀ {vs us : List Value}, VRs S β xs vs → VRs S β ys us → vs = us ∧ xs = ys ∧ ∀ n, (vs.zip us).all (fun (x, y) => Instr.sameBits n x y) = true
  | [], [], _, vs, us, hx, hy => by
    simp only [VRs] at hx hy
    subst hx hy
    exact ⟨rfl, rfl, fun n => rfl⟩
  | x :: xs, y :: ys, h, vs, us, hx, hy => by
    simp only [same1s, Bool.and_eq_true] at h
    simp only [VRs] at hx hy
    obtain ⟨v, vs, rfl, h1, h2⟩ := hx
    obtain ⟨u, us, rfl, g1, g2⟩ := hy
    obtain ⟨rfl, rfl, k1⟩ := same1_ok h.1 h1 g1
    obtain ⟨rfl, rfl, k2⟩ := same1s_ok h.2 h2 g2
    exact ⟨rfl, rfl, fun n => by simp only [List.zip_cons_cons, List.all_cons, k1, Bool.true_and]; exact k2 n⟩
  | [], _ :: _, h, _, _, _, _ => by cases h
  | _ :: _, [], h, _, _, _, _ => by cases h
theorem sameA_ok {x y : AV} (h : sameA x y = true) {v u : Value} (hx : VR S β x v) (hy : VR S β y u) : v = u ∧ x = y ∧ ∀ n, Instr.sameBits (n + 1) v u = true := by
  unfold sameA at h
  split at h
  · simp only [VR] at hx hy
    obtain ⟨vs, rfl, h1⟩ := hx
    obtain ⟨us, rfl, h2⟩ := hy
    obtain ⟨rfl, rfl, k⟩ := same1s_ok h h1 h2
    exact ⟨rfl, rfl, fun n => by simp only [Instr.sameBits, beq_self_eq_true, Bool.true_and]; exact k n⟩
  · obtain ⟨h1, h2, h3⟩ := same1_ok h hx hy
    exact ⟨h1, h2, fun n => h3 _⟩
theorem mapT_ok (hT : TOK P T) {t kt et : Nat} (h : mapTy T t = some (kt, et)) : P.underlying t = some (.map kt et) := by
  unfold mapTy at h
  cases ht : T t with
  | none => rw [ht] at h; cases h
  | some ti =>
    rw [ht] at h
    obtain ⟨i, dd, z, hi, hd, _, _, hsz, _, hk, _⟩ := (hT.get ht).ex
    simp only at h
    split at h
    · rename_i hkk
      simp only [Option.some.injEq, Prod.mk.injEq] at h
      obtain ⟨rfl, rfl⟩ := h
      cases dd <;> simp only [kindOf, hkk, reduceCtorEq, TK.map.injEq] at hk
      obtain ⟨rfl, rfl⟩ := hk
      exact hd
    · cases h
theorem ckV_under (hT : TOK P T) {d t : Nat} {x : AV} (h : ckV T d t x = true) : ∃ dd, P.underlying t = some dd := by
  cases d with
  | zero => simp [ckV] at h
  | succ d =>
    unfold ckV at h
    cases ht : T t with
    | none => rw [ht] at h; cases h
    | some ti =>
      obtain ⟨i, dd, z, hi, hd, _⟩ := (hT.get ht).ex
      exact ⟨dd, hd⟩
theorem zero_run (hT : TOK P T) {t : Nat} {ti : TI} (ht : T t = some ti) : ∃ z, (zeroValue t).run P w = .ok z w ∧ VR S β (zeroEl ti) z := by
  obtain ⟨i, d, z, hi, hd, hz, _⟩ := (hT.get ht).ex
  exact ⟨z, by simp [zeroValue, typeInfo, hi, hz], (VR_zeroEl hT ht hi hz).1⟩
theorem run_getM {r clock : Nat} {es : Array MapEntry} (hb : w.heap[r]? = some (.map es clock)) : (getObj r).run P w = .ok (.map es clock) w := by
  simp [getObj, Sem.run, hb]
def setBlk (w : World) (b : Nat) (o : Obj) : World := { w with heap := w.heap.setIfInBounds b o }
theorem run_setM {r clock : Nat} {es : Array MapEntry} (o : Obj) (hb : w.heap[r]? = some (.map es clock)) : (setObj r o).run P w = .ok () (setBlk w r o) := by
  simp [setObj, Sem.run, hb, setBlk]
theorem look_ok (hT : TOK P T) {t : Nat} {es : List AV} {k r : AV} {ok : Bool} (h : lookA T t es k ok = some r) {vm vk : Value} (hk : VR S β k vk) {ents : Array MapEntry} (he : EntsR S β es ents.toList)
    (hm : (vm = .map none ∧ ents = #[]) ∨ ∃ b clock, vm = .map (some b) ∧ w.heap[b]? = some (.map ents clock)) : Pur P w S β (Instr.lookup t vm vk ok) r := by
  unfold lookA at h
  cases hmt : mapTy T t with
  | none => rw [hmt] at h; cases h
  | some q =>
    obtain ⟨kt, et⟩ := q
    rw [hmt] at h
    simp only at h
    cases hck : ckV T 20 kt k with
    | false => rw [hck] at h; cases h
    | true =>
      rw [hck] at h
      simp only [cond_true] at h
      cases hte : T et with
      | none => rw [hte] at h; cases h
      | some ei =>
        rw [hte] at h
        simp only at h
        obtain ⟨dd, hd⟩ := ckV_under hT hck
        have hu := mapT_ok hT hmt
        have hc := fun em => checkKey_ok (P := P) (w := w) hT 20 10000 (by decide) kt k vk em hck hk
        have hgo : ∀ (r : AV) (r' : Option (Nat × Value)), (Instr.findKey kt vk ents.toList).run P w = .ok r' w →
            (∃ v b, (r' = none → b = false ∧ (zeroValue et).run P w = .ok v w) ∧ (∀ q, r' = some q → b = true ∧ v = q.2) ∧ VR S β r (if ok then .tuple #[v, .bool b] else v)) → Pur P w S β (Instr.lookup t vm vk ok) r := by
          rintro r r' hf ⟨v, b0, h1, h2, h3⟩
          refine ⟨_, ?_, h3⟩
          unfold Instr.lookup
          rcases hm with ⟨rfl, rfl⟩ | ⟨b, clock, rfl, hb⟩
          · simp only [Sem.run_bind, run_underlying hu, Result.andThen_ok, Sem.run_pure, hc, hf]
            cases r' with
            | none => obtain ⟨rfl, h1⟩ := h1 rfl; simp only [Sem.run_bind, h1, Result.andThen_ok, Sem.run_pure]
            | some q => obtain ⟨rfl, rfl⟩ := h2 q rfl; simp only [Sem.run_bind, Result.andThen_ok, Sem.run_pure]
          · simp only [Sem.run_bind, run_underlying hu, Result.andThen_ok, run_getM hb, Sem.run_pure, hc, hf]
            cases r' with
            | none => obtain ⟨rfl, h1⟩ := h1 rfl; simp only [Sem.run_bind, h1, Result.andThen_ok, Sem.run_pure]
            | some q => obtain ⟨rfl, rfl⟩ := h2 q rfl; simp only [Sem.run_bind, Result.andThen_ok, Sem.run_pure]
        cases hf : findA T kt k es 0 with
        | none => rw [hf] at h; cases h
        | some q =>
          rw [hf] at h
          obtain ⟨r', h1, h2⟩ := findKey_ok (P := P) (w := w) hT hd hk hf he
          cases q with
          | none =>
            simp only [Option.some.injEq] at h
            subst h
            simp only [FoundR] at h1
            subst h1
            obtain ⟨z, hz, hzr⟩ := zero_run (w := w) (S := S) (β := β) hT hte
            refine hgo _ none h2 ⟨z, false, fun _ => ⟨rfl, hz⟩, (fun _ h => by cases h), ?_⟩
            cases ok with
            | true => simp only [cond_true, if_true, VR]; exact ⟨[z, .bool false], rfl, by simp only [VRs, VR]; exact ⟨_, _, rfl, hzr, _, _, rfl, rfl, rfl⟩⟩
            | false => simpa using hzr
          | some q =>
            obtain ⟨i, k', v⟩ := q
            simp only [Option.some.injEq] at h
            subst h
            obtain ⟨u, x, rfl, _, g2, g3, g4, rfl⟩ := h1
            refine hgo _ _ h2 ⟨x.val, true, (fun h => by cases h), (fun q h => by cases h; exact ⟨rfl, rfl⟩), ?_⟩
            cases ok with
            | true => simp only [cond_true, if_true, VR]; exact ⟨[x.val, .bool true], rfl, by simp only [VRs, VR]; exact ⟨_, _, rfl, g4, _, _, rfl, rfl, rfl⟩⟩
            | false => simpa using g4
theorem put_ok (hT : TOK P T) {t kt et : Nat} (hmt : mapTy T t = some (kt, et)) {es es' : List AV} {k v : AV} (hck : ckV T 20 kt k = true) (h : putA T kt es k v = some es') {vk vv : Value} (hk : VR S β k vk) (hv : VR S β v vv) {ents : Array MapEntry} {clock b : Nat}
    (he : EntsR S β es ents.toList) (hst : Stamps ents.toList clock) (hb : w.heap[b]? = some (.map ents clock)) :
    ∃ ents' clock', (Instr.mapUpdate t (.map (some b)) vk vv).run P w = .ok () (setBlk w b (.map ents' clock')) ∧ EntsR S β es' ents'.toList ∧ Stamps ents'.toList clock' ∧
      es.length ≤ es'.length ∧ (es'.length = es.length → clock' = clock ∧ ents'.toList.map (·.born) = ents.toList.map (·.born)) := by
  obtain ⟨dd, hd⟩ := ckV_under hT hck
  have hu := mapT_ok hT hmt
  have hc := checkKey_ok (P := P) (w := w) hT 20 10000 (by decide) kt k vk false hck hk
  unfold putA at h
  cases hf : findA T kt k es 0 with
  | none => rw [hf] at h; cases h
  | some q =>
    rw [hf] at h
    obtain ⟨r', h1, h2⟩ := findKey_ok (P := P) (w := w) hT hd hk hf he
    cases q with
    | none =>
      simp only [Option.some.injEq] at h
      subst h
      simp only [FoundR] at h1
      subst h1
      refine ⟨ents.push { key := vk, val := vv, born := clock }, clock + 1, ?_, ?_, ?_, by simp, by simp⟩
      · unfold Instr.mapUpdate
        simp only [Sem.run_bind, run_underlying hu, Result.andThen_ok, run_getM hb, hc, h2, run_setM _ hb]
      · refine ⟨by simpa using he.1, fun i a x ha hx => ?_⟩
        have hl := he.1
        simp only [Array.toList_push] at hx
        rw [List.getElem?_append] at ha hx
        split at ha
        · rename_i hlt
          rw [if_pos (by omega)] at hx
          exact he.2 i a x ha hx
        · rename_i hlt
          rw [if_neg (by omega)] at hx
          rw [← hl] at hx
          cases hi : i - es.length with
          | zero =>
            rw [hi] at ha hx
            simp at ha hx
            subst ha hx
            exact ⟨k, v, rfl, hk, hv⟩
          | succ n => rw [hi] at ha; simp at ha
      · refine ⟨fun x hx => ?_, ?_⟩
        · simp only [Array.toList_push, List.mem_append, List.mem_singleton] at hx
          rcases hx with hx | rfl
          · exact Nat.lt_succ_of_lt (hst.1 x hx)
          · exact Nat.lt_succ_self _
        · simp only [Array.toList_push]
          rw [List.pairwise_append]
          refine ⟨hst.2, by simp, fun x hx y hy => ?_⟩
          simp only [List.mem_singleton] at hy
          subst hy
          exact Nat.ne_of_lt (hst.1 x hx)
    | some q =>
      obtain ⟨i, k', v0⟩ := q
      simp only at h
      cases hs : sameA k' k with
      | false => rw [hs] at h; cases h
      | true =>
        rw [hs] at h
        simp only [cond_true, Option.some.injEq] at h
        subst h
        obtain ⟨u, x, rfl, _, g2, g3, g4, rfl⟩ := h1
        rw [Nat.sub_zero] at g2
        obtain ⟨hkk, _, hbits⟩ := sameA_ok hs g3 hk
        have g2' : ents[i]? = some x := by simpa using g2
        have hmod : (ents.modify i fun e => { e with key := vk, val := vv }).toList = ents.toList.set i { x with key := vk, val := vv } := by
          apply List.ext_getElem?
          intro j
          rw [Array.getElem?_toList, Array.getElem?_modify, List.getElem?_set]
          by_cases hij : i = j
          · subst hij
            obtain ⟨hlt, hgx⟩ := Array.getElem?_eq_some_iff.1 g2'
            simp [hgx, hlt]
          · simp [hij]
        have hmap : (ents.toList.set i { x with key := vk, val := vv }).map (·.born) = ents.toList.map (·.born) := by
          rw [List.map_set]
          apply List.ext_getElem?
          intro j
          rw [List.getElem?_set]
          by_cases hij : i = j
          · subst hij
            obtain ⟨hlt, hgx⟩ := Array.getElem?_eq_some_iff.1 g2'
            simp [hlt, hgx]
          · simp [hij]
        refine ⟨ents.modify i fun e => { e with key := vk, val := vv }, clock, ?_, ?_, ?_, by simp, fun _ => ?_⟩
        · unfold Instr.mapUpdate
          simp only [Sem.run_bind, run_underlying hu, Result.andThen_ok, run_getM hb, hc, h2]
          simp only [g2', Option.map_some, Option.getD_some, Instr.keyThatStays, hbits 9999, if_true, Sem.run_pure, Result.andThen_ok, run_setM _ hb]
        · rw [hmod]
          refine ⟨by simpa using he.1, fun j a y ha hy => ?_⟩
          rw [List.getElem?_set] at ha hy
          by_cases hij : i = j
          · subst hij
            simp only [if_true] at ha hy
            split at ha
            · split at hy
              · simp only [Option.some.injEq] at ha hy
                subst ha hy
                exact ⟨k, v, rfl, hk, hv⟩
              · cases hy
            · cases ha
          · simp only [hij, if_false] at ha hy
            exact he.2 j a y ha hy
        · rw [hmod]
          have hxm : x ∈ ents.toList := List.mem_of_getElem? g2
          refine ⟨fun y hy => ?_, ?_⟩
          · have : y.born ∈ (ents.toList.set i { x with key := vk, val := vv }).map (·.born) := List.mem_map_of_mem hy
            rw [hmap, List.mem_map] at this
            obtain ⟨z, hz, hzb⟩ := this
            rw [← hzb]
            exact hst.1 z hz
          · have h3 : (ents.toList.map (·.born)).Pairwise (· ≠ ·) := List.pairwise_map.2 hst.2
            rw [← hmap] at h3
            exact List.pairwise_map.1 h3
        · exact ⟨rfl, by rw [hmod, hmap]⟩
end
end Go.Av

/- One operation: maps in the heap. Condition: the table of types is the program's. -/
namespace Go.Av
variable [Dr]
omit [Dr] in
theorem leftPos_born {a b : List MapEntry} (h : a.map (·.born) = b.map (·.born)) (seen : Array Nat) : leftPos a seen = leftPos b seen := by
  have hl : a.length = b.length := by simpa using congrArg List.length h
  unfold leftPos
  rw [hl]
  refine List.filter_congr fun i _ => ?_
  have := congrArg (·[i]?) h
  simp only [List.getElem?_map] at this
  cases ha : a[i]? <;> cases hb : b[i]? <;> rw [ha, hb] at this <;> simp at this <;> simp [this]
omit [Dr] in
theorem ObjR.keepM {S S' : Stab} {β β' : List Blk} {w w' : World} {h h' : Hp} {b : Nat} {cs : List AV} (H : ObjR S β w h b cs) (hS : S.le S') (hβ : Ext β β') (hb : w'.heap[b]? = w.heap[b]?)
    (hm : ∀ (l b' : Nat) (es : List AV), β[l]? = some (b', 0) → h'[l]? = some [.tup es] → ∃ es0, h[l]? = some [.tup es0] ∧ es0.length ≤ es.length ∧
      (es.length = es0.length → ∀ ents clock, w.heap[b']? = some (.map ents clock) → ∃ ents', w'.heap[b']? = some (.map ents' clock) ∧ ents'.toList.map (·.born) = ents.toList.map (·.born))) : ObjR S' β' w' h' b cs := by
  rcases H with ⟨es, h1, ents, clock, h2, h3, h4⟩ | ⟨l, n, ps, b', since, seen, last, cur, h1, h2, h3, h4, hcu, h5⟩ | ⟨h1, since, seen, last, h2⟩
  · exact .inl ⟨es, h1, ents, clock, hb.trans h2, h3.mono hS hβ, h4⟩
  · refine .inr (.inl ⟨l, n, ps, b', since, seen, last, cur, h1, hβ _ _ h2, h3, hb.trans h4, hcu, fun es he => ?_⟩)
    obtain ⟨es0, g1, g2, g3⟩ := hm l b' es h2 he
    obtain ⟨k1, k2⟩ := h5 es0 g1
    refine ⟨by omega, fun hn => ?_⟩
    obtain ⟨ents, clock, j1, j2, j3, j4, j5⟩ := k2 (by omega)
    obtain ⟨ents', i1, i2⟩ := g3 (by omega) ents clock j1
    refine ⟨ents', clock, i1, fun x hx => ?_, by rw [j3, leftPos_born i2], j4, fun c hc => ?_⟩
    · have : x.born ∈ ents'.toList.map (·.born) := List.mem_map_of_mem hx
      rw [i2, List.mem_map] at this
      obtain ⟨z, hz, hzb⟩ := this
      rw [← hzb]
      exact j2 z hz
    · obtain ⟨x, hx, hs⟩ := j5 c hc
      have h1 : (ents'.toList.map (·.born))[c]? = some x.born := by rw [i2, List.getElem?_map, hx]; rfl
      rw [List.getElem?_map] at h1
      cases hy : ents'.toList[c]? with
      | none => rw [hy] at h1; cases h1
      | some y =>
        rw [hy] at h1
        simp only [Option.map_some, Option.some.injEq] at h1
        exact ⟨y, rfl, by rw [hs, h1]⟩
  · exact .inr (.inr ⟨h1, since, seen, last, hb.trans h2⟩)
omit [Dr] in
theorem HeapR.mapRow {S : Stab} {β : List Blk} {w : World} {ω : Nat → Owner} {h : Hp} (H : HeapR S β w ω h) {l b : Nat} {es : List AV} (hl : h[l]? = some [.tup es]) (hb : β[l]? = some (b, 0)) :
    ∃ ents clock, w.heap[b]? = some (.map ents clock) ∧ EntsR S β es ents.toList ∧ Stamps ents.toList clock ∧ ω b = .heap l ∧ ∀ o, S b o = none := by
  rcases H l _ hl (by simp) with ⟨b', x, k1, k2, k3, k4, k5, _⟩ | ⟨b', k1, k2, k3, k4⟩
  · rw [hb] at k1
    simp only [Option.some.injEq, Prod.mk.injEq] at k1
    have h2 := k4.length
    simp at h2
    omega
  · rw [hb] at k1
    simp only [Option.some.injEq, Prod.mk.injEq, and_true] at k1
    subst k1
    rcases k4 with ⟨es', h1, ents, clock, h2, h3, h4⟩ | ⟨l', n, ps, b', since, seen, last, cur, h1, _⟩ | ⟨h1, _⟩
    · simp only [List.cons.injEq, AV.tup.injEq, and_true] at h1
      subst h1
      exact ⟨ents, clock, h2, h3, h4, k2, k3⟩
    · simp at h1
    · simp at h1
section
variable {P : Program} {cx : Cx} {c : Entry} {N : Nat} {U : Nat → Prop} {e : Env} {h : Hp} {a : Act} {w : World} {S : Stab} {β : List Blk} {γ : Nat → Value} {lam : Nat → Option Nat} {ω : Nat → Owner} {o : Oper} {gid : Nat}
theorem Gro.allocO (w : World) (o : Obj) : Gro w (w.alloc o) := ⟨by simp, rfl, rfl, rfl, fun _ => by simp⟩
theorem FR.allocO (H : FR c N U e h a w S β γ lam ω) (o : Obj) : FR c N U e h a (w.alloc o) S β γ lam ω :=
  H.world (fun b o' v hv => by rw [cell_of_heap (alloc_old w _ (H.wf.lt hv))]; exact H.wf b o' v hv) (Gro.allocO w o) (fun b hb => ⟨alloc_old w _ hb, fun _ => rfl⟩) (Stab.le_refl S)
theorem FR.newM (H : FR c N U e h a w S β γ lam ω) :
    ∃ ω', FR c N U e (h ++ [[.tup []]]) a (w.alloc (.map #[] 0)) S (β ++ [(w.heap.size, 0)]) γ lam ω' ∧ (β ++ [(w.heap.size, 0)])[h.length]? = some (w.heap.size, 0) := by
  have H2 := H.allocO (.map #[] 0)
  have hext : Ext β (β ++ [(w.heap.size, 0)]) := fun l b hb => by
    have : l < β.length := by
      rcases Nat.lt_or_ge l β.length with h | h
      · exact h
      · rw [List.getElem?_eq_none h] at hb; simp at hb
    rw [List.getElem?_append_left this]; exact hb
  have hnew : (β ++ [(w.heap.size, 0)])[h.length]? = some (w.heap.size, 0) := by rw [← H.hlen]; simp
  have hωn : ω w.heap.size = .no := by
    cases ho : ω w.heap.size with
    | no => rfl
    | _ => have := (H.mine w.heap.size (by rw [ho]; simp)).2; omega
  have hω : ∀ b, ω b ≠ .no → setO ω w.heap.size (.heap h.length) b = ω b := fun b hb => by
    unfold setO; rw [if_neg]; rintro rfl; exact hb hωn
  refine ⟨setO ω w.heap.size (.heap h.length), ⟨H2.wf, H2.gro, H2.keep, H2.le, Ext.trans H2.ext hext, by simp [H.hlen], ?_, H2.tsz, ?_, H2.grps, ?_, ?_, ?_, H2.used⟩, hnew⟩
  · intro l cs' hl hne
    rcases Nat.lt_or_ge l h.length with hlt | hge
    · rw [List.getElem?_append_left hlt] at hl
      rcases H2.heap l cs' hl hne with ⟨b, x, k1, k2, k3, k4, k5⟩ | ⟨b, k1, k2, k3, k4⟩
      · exact .inl ⟨b, x, hext _ _ k1, k2, by rw [hω b (by rw [k3]; simp)]; exact k3, k4.mono (Stab.le_refl S) hext, k5⟩
      · refine .inr ⟨b, hext _ _ k1, by rw [hω b (by rw [k2]; simp)]; exact k2, k3, k4.keepM (Stab.le_refl S) hext rfl fun j b' es hj he => ?_⟩
        have hjl : j < h.length := by
          rw [← H.hlen]
          exact (List.getElem?_eq_some_iff.1 hj).1
        rw [List.getElem?_append_left hjl] at he
        exact ⟨es, he, Nat.le_refl _, fun _ ents clock hh => ⟨ents, hh, rfl⟩⟩
    · rw [List.getElem?_append_right hge] at hl
      have hlz : l = h.length := by
        rcases Nat.eq_zero_or_pos (l - h.length) with h0 | h0
        · omega
        · rw [List.getElem?_eq_none (by simp; omega)] at hl; simp at hl
      subst hlz
      simp only [Nat.sub_self, List.getElem?_cons_zero, Option.some.injEq] at hl
      subst hl
      exact .inr ⟨w.heap.size, hnew, by simp [setO], fun o => H.wf.none (Nat.le_refl _) o, .inl ⟨[], rfl, #[], 0, heap_alloc_new w _, ⟨rfl, fun i e x he => by simp at he⟩, fun x hx => by simp at hx, by simp⟩⟩
  · intro t' ht'
    have := H2.slots t' ht'
    cases hv : (e.get t').v with
    | val av => rw [hv] at this; exact VR.mono (Stab.le_refl S) hext _ _ this
    | loc B off => rw [hv] at this; exact this
  · intro B n hB
    obtain ⟨h1, h2, h3, b, y, h4, h5, h6, h7, h8⟩ := H2.lblk B n hB
    refine ⟨h1, h2, h3, b, y, h4, h5, by rw [hω b (by rw [h6]; simp)]; exact h6, h7, fun i hi => ?_⟩
    obtain ⟨v, a', g1, g2, g3, g4⟩ := h8 i hi
    exact ⟨v, a', g1, g2, VR.mono (Stab.le_refl S) hext _ _ g3, g4⟩
  · intro g z hg
    obtain ⟨a', len, cap, g1, g2, g3, g4⟩ := H2.free g z hg
    refine ⟨a', len, cap, g1, g2, g3, g4.imp id ?_⟩
    rintro ⟨sz, k, off, y, k1, k2, k3, k4, k5, k6⟩
    exact ⟨sz, k, off, y, k1, k2, k3, k4, by rw [hω k (by rw [k5]; simp)]; exact k5, k6⟩
  · intro b hb
    unfold setO at hb
    split at hb
    · rename_i hbb; subst hbb; exact ⟨.inr H.size, by simp⟩
    · rename_i hbb; exact ⟨(H2.mine b hb).1.of_eq (by unfold setO; rw [if_neg hbb]), (H2.mine b hb).2⟩
omit [Dr] in
theorem setBlk_old (w : World) (b : Nat) (o : Obj) {k : Nat} (h : k ≠ b) : (setBlk w b o).heap[k]? = w.heap[k]? := by
  simp [setBlk, Ne.symm h]
omit [Dr] in
theorem setBlk_new {w : World} {b : Nat} (o : Obj) (h : b < w.heap.size) : (setBlk w b o).heap[b]? = some o := by
  simp [setBlk, h]
theorem FR.turnM (H : FR c N U e h a w S β γ lam ω) {l b clock clock' : Nat} {es es' : List AV} {ents ents' : Array MapEntry} (hl : h[l]? = some [.tup es]) (hb : β[l]? = some (b, 0)) (hw : w.heap[b]? = some (.map ents clock))
    (he : EntsR S β es' ents'.toList) (hst : Stamps ents'.toList clock') (hle : es.length ≤ es'.length) (hborn : es'.length = es.length → clock' = clock ∧ ents'.toList.map (·.born) = ents.toList.map (·.born)) :
    FR c N U e (h.set l [.tup es']) a (setBlk w b (.map ents' clock')) S β γ lam ω := by
  obtain ⟨ents0, clock0, h1, _, _, h3, h5⟩ := H.heap.mapRow hl hb
  rw [hw] at h1
  simp only [Option.some.injEq, Obj.map.injEq] at h1
  obtain ⟨rfl, rfl⟩ := h1
  have hbw : b < w.heap.size := (Array.getElem?_eq_some_iff.1 hw).1
  have hlt : l < h.length := by
    rcases Nat.lt_or_ge l h.length with h' | h'
    · exact h'
    · rw [List.getElem?_eq_none h'] at hl; simp at hl
  have hωb : ∀ k, ω k ≠ .heap l → k ≠ b := fun k hk => by rintro rfl; exact hk h3
  have hother : ∀ k, ω k ≠ .heap l → (setBlk w b (.map ents' clock')).heap[k]? = w.heap[k]? := fun k hk => setBlk_old w b _ (hωb k hk)
  have hg : Gro w (setBlk w b (.map ents' clock')) := ⟨by simp [setBlk], rfl, rfl, rfl, fun _ => Nat.le_refl _⟩
  refine ⟨fun k o v hv => ?_, H.gro.trans hg, fun k hk hE => ?_, H.le, H.ext, by simp [H.hlen], ?_, H.tsz, H.slots, H.grps, ?_, ?_, fun k hk => ⟨(H.mine k hk).1, by simpa [setBlk] using (H.mine k hk).2⟩, H.used⟩
  · have hkb : k ≠ b := by rintro rfl; rw [h5] at hv; cases hv
    rw [cell_of_heap (setBlk_old w b _ hkb)]
    exact H.wf k o v hv
  · have hkb : k ≠ b := by
      rintro rfl
      have := (H.mine k (by rw [h3]; simp)).1.low
      rcases this with h | h
      · exact hE h
      · omega
    have := H.keep k hk hE
    exact ⟨by rw [setBlk_old w b _ hkb]; exact this.1, this.2⟩
  · intro j ds hj hd
    rw [List.getElem?_set] at hj
    split at hj
    · rename_i hlj
      subst hlj
      simp only [hlt, if_true, Option.some.injEq] at hj; subst hj
      exact .inr ⟨b, hb, h3, h5, .inl ⟨es', rfl, ents', clock', setBlk_new _ hbw, he, hst⟩⟩
    · rename_i hlj
      rcases H.heap j ds hj hd with ⟨k, x, k1, k2, k3, k4, k5⟩ | ⟨k, k1, k2, k3, k4⟩
      · have hk := hother k (by rw [k3]; simp only [ne_eq, Owner.heap.injEq]; exact fun h => hlj h.symm)
        exact .inl ⟨k, x, k1, k2.of_eq hk, k3, k4, k5.1, fun t ht => by obtain ⟨z, hz⟩ := k5.2 t ht; exact ⟨z, hk.trans hz⟩⟩
      · have hk := hother k (by rw [k2]; simp only [ne_eq, Owner.heap.injEq]; exact fun h => hlj h.symm)
        refine .inr ⟨k, k1, k2, k3, k4.keepM (Stab.le_refl S) (Ext.refl β) hk fun i b' es2 hi he2 => ?_⟩
        rw [List.getElem?_set] at he2
        split at he2
        · rename_i hli
          subst hli
          simp only [hlt, if_true, Option.some.injEq, List.cons.injEq, AV.tup.injEq, and_true] at he2
          subst he2
          rw [hb] at hi
          simp only [Option.some.injEq, Prod.mk.injEq, and_true] at hi
          subst hi
          refine ⟨es, hl, hle, fun hh ents2 clock2 h2 => ?_⟩
          rw [hw] at h2
          simp only [Option.some.injEq, Obj.map.injEq] at h2
          obtain ⟨rfl, rfl⟩ := h2
          exact ⟨ents', by rw [setBlk_new _ hbw, (hborn hh).1], (hborn hh).2⟩
        · rename_i hli
          refine ⟨es2, he2, Nat.le_refl _, fun _ ents2 clock2 h2 => ⟨ents2, ?_, rfl⟩⟩
          obtain ⟨_, _, _, _, _, g, _⟩ := H.heap.mapRow he2 hi
          rw [hother b' (by rw [g]; simp only [ne_eq, Owner.heap.injEq]; exact fun h => hli h.symm)]
          exact h2
  · intro B n hB
    obtain ⟨k1, k2, k3, k, z, k4, k5, k6, k7, k8⟩ := H.lblk B n hB
    exact ⟨k1, k2, k3, k, z, k4, k5.of_eq (hother k (by rw [k6]; simp)), k6, k7, k8⟩
  · intro g z hg
    obtain ⟨a', len, cap, g1, g2, g3, g4⟩ := H.free g z hg
    refine ⟨a', len, cap, g1, g2, g3, g4.imp id ?_⟩
    rintro ⟨sz, k, off, z', k1, k2, k3, k4, k5, k6⟩
    exact ⟨sz, k, off, z', k1, k2, k3.of_eq (hother k (by rw [k5]; simp)), k4, k5, k6⟩
theorem makeMap_op (H : FR c N U e h a w S β γ lam ω) (hd : ∀ t, o.dst = some t → t < N) {t : TypeId} (ho : o.op = .makeMap t none) : After P c N (UG U gid) (runAct e o.dst (.dyn newMapH .ofV) h) o a w := by
  obtain ⟨ω', F, hnew⟩ := H.newM
  have hrun : (execOp a.eval o).run P w = .ok (.value (.map (some w.heap.size))) (w.alloc (.map #[] 0)) := by
    simp [execOp, ho, Instr.makeMap]
  refine After.val hrun (Sat.up ⟨_, _, γ, lam, ω', F.setV hd ?_⟩)
  simp only [VR]
  exact ⟨_, hnew, rfl, rfl⟩
theorem lookup_op (hT : TOK P cx.T) (H : FR c N U e h a w S β γ lam ω) (hd : ∀ t, o.dst = some t → t < N) {t : TypeId} {x i : Operand} {ok : Bool} (ho : o.op = .lookup t x i ok) (hx : ∀ t, x = .tmp t → t < 1000) (hi : ∀ t, i = .tmp t → t < 1000)
    (hr : runAct e o.dst (.dyn (lookH cx.T t (opnd e x) (opnd e i) ok) .ofV) h ≠ .fail) : After P c N (UG U gid) (runAct e o.dst (.dyn (lookH cx.T t (opnd e x) (opnd e i) ok) .ofV) h) o a w := by
  have hvx := opnd_ok H x hx
  have hvi := opnd_ok H i hi
  simp only [runAct, bnd, M.pure] at hr ⊢
  unfold lookH at hr ⊢
  cases hes : entsA h (opnd e x) with
  | none => rw [hes] at hr; exact absurd rfl hr
  | some es =>
    rw [hes] at hr
    simp only at hr ⊢
    cases hl : lookA cx.T t es (opnd e i) ok with
    | none => rw [hl] at hr; exact absurd rfl hr
    | some r =>
      have key : Pur P w S β (Instr.lookup t (a.eval x) (a.eval i) ok) r := by
        unfold entsA at hes
        split at hes
        · rename_i l hq
          split at hes
          · rename_i es' hh
            simp only [Option.some.injEq] at hes
            subst hes
            rw [hq] at hvx
            simp only [VR] at hvx
            obtain ⟨⟨b, n⟩, hb, h0, hv⟩ := hvx
            simp only at h0
            subst h0
            obtain ⟨ents, clock, g1, g2, _⟩ := H.heap.mapRow hh hb
            exact look_ok hT hl hvi g2 (.inr ⟨b, clock, hv, g1⟩)
          · cases hes
        · rename_i hq
          simp only [Option.some.injEq] at hes
          subst hes
          rw [hq] at hvx
          simp only [VR] at hvx
          exact look_ok hT hl hvi (ents := #[]) ⟨rfl, fun i e x he => by simp at he⟩ (.inl ⟨hvx, rfl⟩)
        · cases hes
      obtain ⟨v, h1, h2⟩ := key
      exact After.val (v := v) (w' := w) (by simp only [execOp, ho, Sem.run_bind, h1, Result.andThen_ok, Sem.run_pure]) (Sat.up ⟨S, β, γ, lam, ω, H.setV hd h2⟩)
theorem put_op (hT : TOK P cx.T) (H : FR c N U e h a w S β γ lam ω) {t : TypeId} {m k x : Operand} (ho : o.op = .mapUpdate t m k x ∨ o.op = .insert t m k x) (hm : ∀ t, m = .tmp t → t < 1000) (hk : ∀ t, k = .tmp t → t < 1000) (hx : ∀ t, x = .tmp t → t < 1000)
    (hr : runAct e o.dst (opPut cx e o.dst t m k x) h ≠ .fail) : After P c N (UG U gid) (runAct e o.dst (opPut cx e o.dst t m k x) h) o a w := by
  have hvm := opnd_ok H m hm
  have hvk := opnd_ok H k hk
  have hvx := opnd_ok H x hx
  unfold opPut at hr ⊢
  cases hdst : o.dst with
  | some d => rw [hdst] at hr; exact absurd rfl hr
  | none =>
    rw [hdst] at hr
    simp only [runAct, bnd, M.pure] at hr ⊢
    unfold putH at hr ⊢
    cases hmt : mapTy cx.T t with
    | none => rw [hmt] at hr; exact absurd rfl hr
    | some q =>
      obtain ⟨kt, et⟩ := q
      rw [hmt] at hr
      simp only at hr ⊢
      cases hck : ckV cx.T 20 kt (opnd e k) with
      | false => rw [hck] at hr; exact absurd rfl hr
      | true =>
        rw [hck] at hr
        simp only [cond_true] at hr ⊢
        cases hq : opnd e m with
        | mp l =>
          rw [hq] at hr hvm
          simp only at hr ⊢
          cases hh : h[l]? with
          | none => rw [hh] at hr; exact absurd rfl hr
          | some cs =>
            rw [hh] at hr
            match cs, hh, hr with
            | [.tup es], hh, hr =>
              simp only at hr ⊢
              cases hp : putA cx.T kt es (opnd e k) (opnd e x) with
              | none => rw [hp] at hr; exact absurd rfl hr
              | some es' =>
                simp only [VR] at hvm
                obtain ⟨⟨b, n⟩, hb, h0, hv⟩ := hvm
                simp only at h0
                subst h0
                obtain ⟨ents, clock, g1, g2, g3, _⟩ := H.heap.mapRow hh hb
                obtain ⟨ents', clock', k1, k2, k3, k4, k5⟩ := put_ok hT hmt hck hp hvk hvx g2 g3 g1
                refine After.skip (w' := setBlk w b (.map ents' clock')) hdst ?_ ?_
                · rcases ho with ho | ho <;> simp only [execOp, ho, hv, Sem.run_bind, k1, Result.andThen_ok, Sem.run_pure]
                · exact Sat.up ⟨_, _, _, _, _, H.turnM hh hb g1 k2 k3 k4 k5⟩
        | _ => rw [hq] at hr; exact absurd rfl hr
end
end Go.Av

/- Going over a map: what starts, what steps, what reads. Conditions: the table of types is the program's. -/
namespace Go.Av
variable [Dr]
section
variable {c : Entry} {N : Nat} {U : Nat → Prop} {e : Env} {h : Hp} {a : Act} {w : World} {S : Stab} {β : List Blk} {γ : Nat → Value} {lam : Nat → Option Nat} {ω : Nat → Owner} {P : Program} {cx : Cx} {gid : Nat} {o : Oper}
omit [Dr] in
theorem lt_of_get {α : Type} {l : List α} {i : Nat} {x : α} (h : l[i]? = some x) : i < l.length := (List.getElem?_eq_some_iff.1 h).1
theorem FR.newO (H : FR c N U e h a w S β γ lam ω) (ob : Obj) (cs : List AV) (hcs : ∀ t, cs ≠ [.tup t]) (hob : ObjR S (β ++ [(w.heap.size, 0)]) (w.alloc ob) (h ++ [cs]) w.heap.size cs) :
    ∃ ω', FR c N U e (h ++ [cs]) a (w.alloc ob) S (β ++ [(w.heap.size, 0)]) γ lam ω' ∧ (β ++ [(w.heap.size, 0)])[h.length]? = some (w.heap.size, 0) := by
  have H2 := H.allocO ob
  have hext : Ext β (β ++ [(w.heap.size, 0)]) := fun l b hb => by
    rw [List.getElem?_append_left (lt_of_get hb)]; exact hb
  have hnew : (β ++ [(w.heap.size, 0)])[h.length]? = some (w.heap.size, 0) := by rw [← H.hlen]; simp
  have hωn : ω w.heap.size = .no := by
    cases ho : ω w.heap.size with
    | no => rfl
    | _ => have := (H.mine w.heap.size (by rw [ho]; simp)).2; omega
  have hω : ∀ b, ω b ≠ .no → setO ω w.heap.size (.heap h.length) b = ω b := fun b hb => by
    unfold setO; rw [if_neg]; rintro rfl; exact hb hωn
  refine ⟨setO ω w.heap.size (.heap h.length), ⟨H2.wf, H2.gro, H2.keep, H2.le, Ext.trans H2.ext hext, by simp [H.hlen], ?_, H2.tsz, ?_, H2.grps, ?_, ?_, ?_, H2.used⟩, hnew⟩
  · intro l cs' hl hne
    rcases Nat.lt_or_ge l h.length with hlt | hge
    · rw [List.getElem?_append_left hlt] at hl
      rcases H2.heap l cs' hl hne with ⟨b, x, k1, k2, k3, k4, k5⟩ | ⟨b, k1, k2, k3, k4⟩
      · exact .inl ⟨b, x, hext _ _ k1, k2, by rw [hω b (by rw [k3]; simp)]; exact k3, k4.mono (Stab.le_refl S) hext, k5⟩
      · refine .inr ⟨b, hext _ _ k1, by rw [hω b (by rw [k2]; simp)]; exact k2, k3, k4.keep (Stab.le_refl S) hext rfl fun j b' es hj he => ?_⟩
        have hjl : j < h.length := by
          rw [← H.hlen]
          exact lt_of_get hj
        rw [List.getElem?_append_left hjl] at he
        exact ⟨he, rfl⟩
    · rw [List.getElem?_append_right hge] at hl
      have hlz : l = h.length := by
        have := lt_of_get hl
        simp at this
        omega
      subst hlz
      simp only [Nat.sub_self, List.getElem?_cons_zero, Option.some.injEq] at hl
      subst hl
      exact .inr ⟨w.heap.size, hnew, by simp [setO], fun o => H.wf.none (Nat.le_refl _) o, hob⟩
  · intro t' ht'
    have := H2.slots t' ht'
    cases hv : (e.get t').v with
    | val av => rw [hv] at this; exact VR.mono (Stab.le_refl S) hext _ _ this
    | loc B off => rw [hv] at this; exact this
  · intro B n hB
    obtain ⟨h1, h2, h3, b, y, h4, h5, h6, h7, h8⟩ := H2.lblk B n hB
    refine ⟨h1, h2, h3, b, y, h4, h5, by rw [hω b (by rw [h6]; simp)]; exact h6, h7, fun i hi => ?_⟩
    obtain ⟨v, a', g1, g2, g3, g4⟩ := h8 i hi
    exact ⟨v, a', g1, g2, VR.mono (Stab.le_refl S) hext _ _ g3, g4⟩
  · intro g z hg
    obtain ⟨a', len, cap, g1, g2, g3, g4⟩ := H2.free g z hg
    refine ⟨a', len, cap, g1, g2, g3, g4.imp id ?_⟩
    rintro ⟨sz, k, off, y, k1, k2, k3, k4, k5, k6⟩
    exact ⟨sz, k, off, y, k1, k2, k3, k4, by rw [hω k (by rw [k5]; simp)]; exact k5, k6⟩
  · intro b hb
    unfold setO at hb
    split at hb
    · rename_i hbb; subst hbb; exact ⟨.inr H.size, by simp⟩
    · rename_i hbb; exact ⟨(H2.mine b hb).1.of_eq (by unfold setO; rw [if_neg hbb]), (H2.mine b hb).2⟩
omit [Dr] in
theorem HeapR.iterRow (H : HeapR S β w ω h) {l b : Nat} {cs : List AV} (hl : h[l]? = some cs) (hne : cs ≠ []) (hcs : ∀ t, cs ≠ [.tup t]) (hb : β[l]? = some (b, 0)) : IterAt β w h b cs ∧ ω b = .heap l ∧ ∀ o, S b o = none := by
  rcases H l _ hl hne with ⟨b', x, k1, k2, k3, k4, k5, _⟩ | ⟨b', k1, k2, k3, k4⟩
  · rw [hb] at k1
    simp only [Option.some.injEq, Prod.mk.injEq] at k1
    have h2 := k4.length
    have h3 : x.toList.length = 0 := by rw [Array.length_toList]; exact k1.2.symm
    rw [List.length_take, h3, Nat.min_zero] at h2
    exact absurd (List.length_eq_zero_iff.1 h2.symm) hne
  · rw [hb] at k1
    simp only [Option.some.injEq, Prod.mk.injEq, and_true] at k1
    subst k1
    rcases k4 with ⟨es, h1, _⟩ | k4
    · exact absurd h1 (hcs es)
    · exact ⟨k4, k2, k3⟩
theorem FR.turnI (H : FR c N U e h a w S β γ lam ω) {l b : Nat} {cs cs' : List AV} (ob : Obj) (hl : h[l]? = some cs) (hne : cs ≠ []) (hcs0 : ∀ t, cs ≠ [.tup t]) (hcs : ∀ t, cs' ≠ [.tup t]) (hb : β[l]? = some (b, 0))
    (hob : ObjR S β (setBlk w b ob) (h.set l cs') b cs') : FR c N U e (h.set l cs') a (setBlk w b ob) S β γ lam ω := by
  obtain ⟨hI, h3, h5⟩ := H.heap.iterRow hl hne hcs0 hb
  have hbw : b < w.heap.size := ObjR.lt (S := S) (.inr hI)
  have hlt := lt_of_get hl
  have hωb : ∀ k, ω k ≠ .heap l → k ≠ b := fun k hk => by rintro rfl; exact hk h3
  have hother : ∀ k, ω k ≠ .heap l → (setBlk w b ob).heap[k]? = w.heap[k]? := fun k hk => setBlk_old w b _ (hωb k hk)
  have hg : Gro w (setBlk w b ob) := ⟨by simp [setBlk], rfl, rfl, rfl, fun _ => Nat.le_refl _⟩
  refine ⟨fun k o v hv => ?_, H.gro.trans hg, fun k hk hE => ?_, H.le, H.ext, by simp [H.hlen], ?_, H.tsz, H.slots, H.grps, ?_, ?_, fun k hk => ⟨(H.mine k hk).1, by simpa [setBlk] using (H.mine k hk).2⟩, H.used⟩
  · have hkb : k ≠ b := by rintro rfl; rw [h5] at hv; cases hv
    rw [cell_of_heap (setBlk_old w b _ hkb)]
    exact H.wf k o v hv
  · have hkb : k ≠ b := by
      rintro rfl
      have := (H.mine k (by rw [h3]; simp)).1.low
      rcases this with h | h
      · exact hE h
      · omega
    have := H.keep k hk hE
    exact ⟨by rw [setBlk_old w b _ hkb]; exact this.1, this.2⟩
  · intro j ds hj hd
    rw [List.getElem?_set] at hj
    split at hj
    · rename_i hlj
      subst hlj
      simp only [hlt, if_true, Option.some.injEq] at hj; subst hj
      exact .inr ⟨b, hb, h3, h5, hob⟩
    · rename_i hlj
      rcases H.heap j ds hj hd with ⟨k, x, k1, k2, k3, k4, k5⟩ | ⟨k, k1, k2, k3, k4⟩
      · have hk := hother k (by rw [k3]; simp only [ne_eq, Owner.heap.injEq]; exact fun h => hlj h.symm)
        exact .inl ⟨k, x, k1, k2.of_eq hk, k3, k4, k5.1, fun t ht => by obtain ⟨z, hz⟩ := k5.2 t ht; exact ⟨z, hk.trans hz⟩⟩
      · have hk := hother k (by rw [k2]; simp only [ne_eq, Owner.heap.injEq]; exact fun h => hlj h.symm)
        refine .inr ⟨k, k1, k2, k3, k4.keep (Stab.le_refl S) (Ext.refl β) hk fun i b' es2 hi he2 => ?_⟩
        rw [List.getElem?_set] at he2
        split at he2
        · rename_i hli
          subst hli
          simp only [hlt, if_true, Option.some.injEq] at he2
          exact absurd he2 (hcs es2)
        · rename_i hli
          refine ⟨he2, ?_⟩
          obtain ⟨_, _, _, _, _, g, _⟩ := H.heap.mapRow he2 hi
          exact hother b' (by rw [g]; simp only [ne_eq, Owner.heap.injEq]; exact fun h => hli h.symm)
  · intro B n hB
    obtain ⟨k1, k2, k3, k, z, k4, k5, k6, k7, k8⟩ := H.lblk B n hB
    exact ⟨k1, k2, k3, k, z, k4, k5.of_eq (hother k (by rw [k6]; simp)), k6, k7, k8⟩
  · intro g z hg
    obtain ⟨a', len, cap, g1, g2, g3, g4⟩ := H.free g z hg
    refine ⟨a', len, cap, g1, g2, g3, g4.imp id ?_⟩
    rintro ⟨sz, k, off, z', k1, k2, k3, k4, k5, k6⟩
    exact ⟨sz, k, off, z', k1, k2, k3.of_eq (hother k (by rw [k5]; simp)), k4, k5, k6⟩
theorem range_op (hT : TOK P cx.T) (H : FR c N U e h a w S β γ lam ω) (hd : ∀ t, o.dst = some t → t < N) {t : TypeId} {x : Operand} (ho : o.op = .range t x) (hx : ∀ t, x = .tmp t → t < 1000)
    (hr : runAct e o.dst (.dyn (rangeH cx.T t (opnd e x)) .ofV) h ≠ .fail) : After P c N (UG U gid) (runAct e o.dst (.dyn (rangeH cx.T t (opnd e x)) .ofV) h) o a w := by
  have hvx := opnd_ok H x hx
  simp only [runAct, bnd, M.pure] at hr ⊢
  unfold rangeH at hr ⊢
  cases hm : mapTy cx.T t with
  | none => rw [hm] at hr; exact absurd rfl hr
  | some q =>
    obtain ⟨kt, et⟩ := q
    have hu := mapT_ok hT hm
    rw [hm] at hr
    simp only at hr ⊢
    cases hq : opnd e x with
    | mp l =>
      rw [hq] at hr hvx
      simp only at hr ⊢
      cases hh : h[l]? with
      | none => rw [hh] at hr; exact absurd rfl hr
      | some cs =>
        rw [hh] at hr
        match cs, hh, hr with
        | [.tup es], hh, hr =>
          simp only at hr ⊢
          simp only [VR] at hvx
          obtain ⟨⟨b, n⟩, hb, h0, hv⟩ := hvx
          simp only at h0
          subst h0
          obtain ⟨ents, clock, g1, g2, g3, _⟩ := H.heap.mapRow hh hb
          have hbw : b < w.heap.size := (Array.getElem?_eq_some_iff.1 g1).1
          have hl := lt_of_get hh
          have hext : Ext β (β ++ [(w.heap.size, 0)]) := fun l b hb => by rw [List.getElem?_append_left (lt_of_get hb)]; exact hb
          obtain ⟨ω', F, hnew⟩ := H.newO (.mapIter (some b) clock #[] clock) [.tup [], .mp l, .int .i64 (es.length : Nat), posA (List.range es.length), .any] (by simp)
            (.inr (.inl ⟨l, es.length, List.range es.length, b, clock, #[], clock, .any, rfl, hext _ _ hb, Nat.le_refl _, heap_alloc_new w _, .inl rfl, fun es2 he2 => by
              rw [List.getElem?_append_left hl, hh] at he2
              simp only [Option.some.injEq, List.cons.injEq, AV.tup.injEq, and_true] at he2
              subst he2
              refine ⟨Nat.le_refl _, fun _ => ⟨ents, clock, by rw [alloc_old w _ hbw]; exact g1, g3.1, ?_, rfl, fun c hc => by cases hc⟩⟩
              unfold leftPos
              rw [← g2.1]
              symm
              rw [List.filter_eq_self]
              intro i hi
              have hi' : i < ents.toList.length := by rw [← g2.1]; simpa using hi
              rw [List.getElem?_eq_getElem hi']
              simp⟩))
          have hrun : (execOp a.eval o).run P w = .ok (.value (.pointer (some ⟨w.heap.size, 0, none⟩))) (w.alloc (.mapIter (some b) clock #[] clock)) := by
            simp [execOp, ho, hv, Instr.range, run_underlying hu, run_getM g1]
          refine After.val hrun (Sat.up ⟨_, _, γ, lam, ω', F.setV hd ?_⟩)
          simp only [VR]
          exact ⟨_, hnew, rfl, rfl⟩
    | nilm =>
      rw [hq] at hvx
      simp only [VR] at hvx
      simp only
      obtain ⟨ω', F, hnew⟩ := H.newO (.mapIter none 0 #[] 0) [.tup [], .nilm] (by simp) (.inr (.inr ⟨rfl, 0, #[], 0, heap_alloc_new w _⟩))
      have hrun : (execOp a.eval o).run P w = .ok (.value (.pointer (some ⟨w.heap.size, 0, none⟩))) (w.alloc (.mapIter none 0 #[] 0)) := by
        simp [execOp, ho, hvx, Instr.range, run_underlying hu]
      refine After.val hrun (Sat.up ⟨_, _, γ, lam, ω', F.setV hd ?_⟩)
      simp only [VR]
      exact ⟨_, hnew, rfl, rfl⟩
    | _ => rw [hq] at hr; exact absurd rfl hr
omit [Dr] in
theorem find_stamp {x : MapEntry} : {l : List MapEntry} → {c : Nat} → l.Pairwise (fun x y => x.born ≠ y.born) → l[c]? = some x → l.find? (·.born == x.born) = some x
  | [], _, _, h => by simp at h
  | y :: l, c, hp, h => by
    obtain ⟨h1, h2⟩ := List.pairwise_cons.1 hp
    cases c with
    | zero => simp at h; subst h; simp
    | succ c =>
      have h' : l[c]? = some x := by simpa using h
      have hne := h1 x (List.mem_of_getElem? h')
      rw [List.find?_cons, beq_eq_false_iff_ne.2 hne]
      exact find_stamp h2 h'
omit [Dr] in
theorem run_getI {r : Nat} {ob : Obj} (hb : w.heap[r]? = some ob) (hc : ∀ c t f, ob ≠ .cells c t f) : (getObj r).run P w = .ok ob w := by
  simp only [getObj, Sem.run, hb]
omit [Dr] in
theorem entryH_inv {x : AV} {h : Hp} (hr : entryH x h ≠ .fail) : ∃ l m n p cu es k u, x = .it l ∧ h[l]? = some [.tup [], .mp m, .int .i64 n, p, .int .i64 cu] ∧ h[m]? = some [.tup es] ∧ (es.length : Int) = n ∧ es[cu.toNat]? = some (.tup [k, u]) ∧ entryH x h = .ok (.tup [k, u]) h := by
  unfold entryH at hr ⊢
  split at hr
  · rename_i l
    split at hr
    · rename_i m n p cu hl
      split at hr
      · rename_i es hm
        split at hr
        · rename_i hn
          split at hr
          · rename_i k u he
            exact ⟨l, m, n, p, cu, es, k, u, rfl, hl, hm, hn, he, by simp only [hl, hm, if_pos hn, he]⟩
          · exact absurd rfl hr
        · exact absurd rfl hr
      · exact absurd rfl hr
    · exact absurd rfl hr
  · exact absurd rfl hr
theorem entry_op (H : FR c N U e h a w S β γ lam ω) (hd : ∀ t, o.dst = some t → t < N) {x : Operand} (ho : o.op = .entry x) (hx : ∀ t, x = .tmp t → t < 1000)
    (hr : runAct e o.dst (.dyn (entryH (opnd e x)) .ofV) h ≠ .fail) : After P c N (UG U gid) (runAct e o.dst (.dyn (entryH (opnd e x)) .ofV) h) o a w := by
  have hvx := opnd_ok H x hx
  simp only [runAct, bnd, M.pure] at hr ⊢
  obtain ⟨l, m, n, p, cu, es, k, u, hq, hh, hm, hn, he, hok⟩ := entryH_inv (x := opnd e x) (h := h) (fun hf => by rw [hf] at hr; exact hr rfl)
  rw [hok]
  simp only
  rw [hq] at hvx
  simp only [VR] at hvx
  obtain ⟨⟨b, z⟩, hb, h0, hv⟩ := hvx
  simp only at h0
  subst h0
  obtain ⟨hI, _, _⟩ := H.heap.iterRow hh (by simp) (by simp) hb
  rcases hI with ⟨l', n', ps, b', since, seen, last, cur, h1, h2, h3, h4, hcu, h5⟩ | ⟨h1, _⟩
  · simp only [List.cons.injEq, AV.mp.injEq, AV.int.injEq, true_and, and_true] at h1
    obtain ⟨rfl, rfl, rfl, rfl⟩ := h1
    rcases hcu with hcu | ⟨ci, hcu⟩
    · cases hcu
    simp only [AV.int.injEq, true_and] at hcu
    subst hcu
    obtain ⟨_, k2⟩ := h5 es hm
    obtain ⟨ents, clock, j1, j2, j3, j4, j5⟩ := k2 (by omega)
    obtain ⟨y, hy, hs⟩ := j5 ci rfl
    obtain ⟨ents0, clock0, g1, g2, g3, _⟩ := H.heap.mapRow hm h2
    rw [j1] at g1
    simp only [Option.some.injEq, Obj.map.injEq] at g1
    obtain ⟨rfl, rfl⟩ := g1
    subst j4
    have hf : ents.find? (·.born == y.born) = some y := by rw [← Array.find?_toList]; exact find_stamp g3.2 hy
    have hrun : (execOp a.eval o).run P w = .ok (.value (.tuple #[y.key, y.val])) w := by
      simp [execOp, ho, hv, Instr.entry, run_getI h4 (by simp), hs, run_getI j1 (by simp), hf]
    simp only [Int.toNat_natCast] at he
    obtain ⟨k', v', hkv, hk, hvv⟩ := g2.2 ci _ y he hy
    simp only [AV.tup.injEq, List.cons.injEq, and_true] at hkv
    obtain ⟨rfl, rfl⟩ := hkv
    refine After.val hrun (Sat.up ⟨_, _, γ, lam, ω, H.setV hd ?_⟩)
    simp only [VR]
    exact ⟨[y.key, y.val], rfl, by simp only [VRs]; exact ⟨_, _, rfl, hk, _, _, rfl, hvv, rfl⟩⟩
  · simp at h1
omit [Dr] in
theorem leftPos_mem {ents : List MapEntry} {seen : Array Nat} {i : Nat} : i ∈ leftPos ents seen ↔ ∃ x, ents[i]? = some x ∧ seen.contains x.born = false := by
  unfold leftPos
  rw [List.mem_filter]
  constructor
  · rintro ⟨_, h⟩
    split at h
    · rename_i x hx; exact ⟨x, hx, by simpa using h⟩
    · cases h
  · rintro ⟨x, hx, hs⟩
    exact ⟨by simpa using lt_of_get hx, by rw [hx]; simpa using hs⟩
omit [Dr] in
theorem born_inj {ents : List MapEntry} (h : ents.Pairwise fun x y => x.born ≠ y.born) {i j : Nat} {x y : MapEntry} (hi : ents[i]? = some x) (hj : ents[j]? = some y) (hb : x.born = y.born) : i = j := by
  rcases Nat.lt_trichotomy i j with hl | hl | hl
  · obtain ⟨h1, rfl⟩ := List.getElem?_eq_some_iff.1 hi
    obtain ⟨h2, rfl⟩ := List.getElem?_eq_some_iff.1 hj
    exact absurd hb (List.pairwise_iff_getElem.1 h i j h1 h2 hl)
  · exact hl
  · obtain ⟨h1, rfl⟩ := List.getElem?_eq_some_iff.1 hi
    obtain ⟨h2, rfl⟩ := List.getElem?_eq_some_iff.1 hj
    exact absurd hb.symm (List.pairwise_iff_getElem.1 h j i h2 h1 hl)
omit [Dr] in
theorem leftPos_push {ents : List MapEntry} (hp : ents.Pairwise fun x y => x.born ≠ y.born) {seen : Array Nat} {i : Nat} {x : MapEntry} (hi : ents[i]? = some x) :
    leftPos ents (seen.push x.born) = (leftPos ents seen).filter fun r => !(Nat.beq r i) := by
  unfold leftPos
  rw [List.filter_filter]
  refine List.filter_congr fun r hr => ?_
  have hr' : r < ents.length := by simpa using hr
  rw [List.getElem?_eq_getElem hr']
  show (!(seen.push x.born).contains ents[r].born) = (!(Nat.beq r i) && !seen.contains ents[r].born)
  have hc : (seen.push x.born).contains ents[r].born = (seen.contains ents[r].born || ents[r].born == x.born) := by
    rw [Bool.eq_iff_iff]
    simp
  rw [hc]
  have hri : (ents[r].born == x.born) = Nat.beq r i := by
    cases hb : Nat.beq r i with
    | true =>
      have := Nat.eq_of_beq_eq_true hb
      subst this
      rw [List.getElem?_eq_getElem hr'] at hi
      simp only [Option.some.injEq] at hi
      rw [hi]
      simp
    | false =>
      have hne : r ≠ i := fun hh => by subst hh; simp at hb
      exact beq_eq_false_iff_ne.2 fun hh => hne (born_inj hp (List.getElem?_eq_getElem hr') hi hh)
  rw [hri, Bool.not_or, Bool.and_comm]
omit [Dr] in
theorem run_nextM (ty : TypeId) {b bm since last clock : Nat} {seen : Array Nat} {es : Array MapEntry} (hb : w.heap[b]? = some (.mapIter (some bm) since seen last)) (hm : w.heap[bm]? = some (.map es clock))
    (hold : ∀ x ∈ es.toList, x.born < since) (hsc : since ≤ last) :
    (leftPos es.toList seen = [] ∧ (Instr.next (.pointer (some ⟨b, 0, none⟩)) false ty).run P w = .ok (.tuple #[.bool false]) w) ∨
    ∃ i x w1, i ∈ leftPos es.toList seen ∧ es.toList[i]? = some x ∧ (w1 = w ∨ w1 = w.drew) ∧ (Instr.next (.pointer (some ⟨b, 0, none⟩)) false ty).run P w = .ok (.tuple #[.bool true, x.key, x.val]) (setBlk w1 b (.mapIter (some bm) since (seen.push x.born) clock)) := by
  have htest : (!seen.isEmpty && !es.isEmpty && es.all (fun x => decide (x.born ≥ last))) = false := by
    cases he : es.isEmpty with
    | true => simp
    | false =>
      have hall : es.all (fun x => decide (x.born ≥ last)) = false := by
        rw [Bool.eq_false_iff]
        intro h
        rw [Array.all_eq_true_iff_forall_mem] at h
        have h0 : 0 < es.size := by
          rcases Nat.eq_zero_or_pos es.size with h0 | h0
          · simp [Array.isEmpty, h0] at he
          · exact h0
        have h1 := h _ (Array.getElem_mem h0)
        have h2 := hold es[0] (by simp)
        simp at h1
        omega
      simp [hall]
  have hleft : ∀ x, x ∈ (es.filter fun e => !seen.contains e.born).toList → ∃ i, i ∈ leftPos es.toList seen ∧ es.toList[i]? = some x := fun x hx => by
    simp only [Array.toList_filter, List.mem_filter] at hx
    obtain ⟨i, hi⟩ := List.getElem?_of_mem hx.1
    exact ⟨i, leftPos_mem.2 ⟨x, hi, by simpa using hx.2⟩, hi⟩
  have hnone : (es.filter fun e => !seen.contains e.born).size = 0 → leftPos es.toList seen = [] := fun h0 => by
    rw [List.eq_nil_iff_forall_not_mem]
    intro i hi
    obtain ⟨x, hx, hs⟩ := leftPos_mem.1 hi
    have : x ∈ (es.filter fun e => !seen.contains e.born).toList := by
      simp only [Array.toList_filter, List.mem_filter]
      exact ⟨List.mem_of_getElem? hx, by simpa using hs⟩
    rw [Array.eq_empty_of_size_eq_zero h0] at this
    simp at this
  have hmem : ∀ x ∈ (es.filter fun e => !seen.contains e.born).toList, x.born < since := fun x hx => by
    simp only [Array.toList_filter, List.mem_filter] at hx
    exact hold x hx.1
  simp only [Instr.next, getObj, Sem.run_bind, Sem.run, hb, hm, Result.andThen, htest, Bool.false_eq_true, if_false]
  generalize (es.filter fun e => !seen.contains e.born) = L at hleft hnone hmem ⊢
  have e1 : L.filter (fun x => decide (x.born < since)) = L := Array.filter_eq_self.2 (fun x hx => by simpa using hmem x (by simpa using hx))
  have e2 : L.filter (fun x => decide (x.born ≥ since)) = #[] := by
    rw [Array.filter_eq_empty_iff]
    intro x hx
    have := hmem x (by simpa using hx)
    simp
    omega
  simp only [e1, e2, Array.append_empty]
  by_cases h0 : L.size = 0
  · left
    refine ⟨hnone h0, ?_⟩
    have : L = #[] := Array.eq_empty_of_size_eq_zero h0
    subst this
    simp [choose, Sem.run, Question.forced]
  · right
    have hne : L.isEmpty = false := by simp [Array.isEmpty, h0]
    simp only [hne, Bool.false_eq_true, if_false, Array.empty_append, Array.size_map]
    have hch : ∃ (j : Nat) (w1 : World), j < L.size ∧ (w1 = w ∨ w1 = w.drew) ∧ (choose (Question.mapNext L.size)).run P w = .ok j w1 := by
      by_cases hf : L.size ≤ 1
      · exact ⟨0, w, by omega, .inl rfl, by simp [choose, Sem.run, Question.forced, hf]⟩
      · exact ⟨_, w.drew, Nat.mod_lt _ (by omega), .inr rfl, by
          simp only [choose, Sem.run, Question.forced, decide_eq_true_eq, hf, if_false, Question.cut]
          rfl⟩
    obtain ⟨j, w1, hj, hw1, hrun⟩ := hch
    obtain ⟨i, hi1, hi2⟩ := hleft L[j] (by simp)
    refine ⟨i, L[j], w1, hi1, hi2, hw1, ?_⟩
    have hb1 : w1.heap[b]? = some (.mapIter (some bm) since seen last) := by rcases hw1 with rfl | rfl <;> exact hb
    have hset : ∀ ob : Obj, (setObj b ob).run P w1 = .ok () (setBlk w1 b ob) := fun ob => by
      simp [setObj, Sem.run, hb1, setBlk]
    simp only [hrun, Array.getElem?_map, Array.getElem?_eq_getElem hj, Option.map_some, Sem.run_bind, hset, Result.andThen]
    rfl
end
end Go.Av

/- Operations on maps inside a fence, by what they give; and a map's keys, one after another. No condition. -/
namespace Go.Av
open Go
section
variable {F : Fence} {n : Nat} {P : Program} {w w' : World} {ops : Array Oper} {rest : List Oper} {o : Oper} {a : Act} {Q : Exit → Act → World → Prop} {v : Value}
theorem wpListIn_range_run (hg : o.guard = none) (m : Operand) (t : TypeId) (hop : o.op = Op.range t m) (hrun : (Instr.range t (a.eval m)).run P w = .ok v w') (hK : wpListIn F n P ops Q rest (a.put o.dst v) w') : wpListIn F n P ops Q (o :: rest) a w := by
  refine wpListIn_plain hg fun K' hK' => ?_
  unfold Oper.wpIn
  refine ⟨by simp [Oper.about, hop], ?_⟩
  rw [Oper.semAt_plain F _ _ (by rw [hop]; intro c hc'; cases hc')]
  simp [execOp, hop, hrun, Result.andThen]
  exact hK' _ _ hK
theorem wpListIn_next_run (hg : o.guard = none) (it : Operand) (hop : o.op = Op.next it false) (hrun : (Instr.next (a.eval it) false o.type).run P w = .ok v w') (hK : wpListIn F n P ops Q rest (a.put o.dst v) w') : wpListIn F n P ops Q (o :: rest) a w := by
  refine wpListIn_plain hg fun K' hK' => ?_
  unfold Oper.wpIn
  refine ⟨by simp [Oper.about, hop], ?_⟩
  rw [Oper.semAt_plain F _ _ (by rw [hop]; intro c hc'; cases hc')]
  simp [execOp, hop, hrun, Result.andThen]
  exact hK' _ _ hK
theorem wpListIn_next_map (hg : o.guard = none) (it : Operand) (hop : o.op = Op.next it false) {b bm since last clock : Nat} {seen : Array Nat} {es : Array MapEntry} (hit : a.eval it = .pointer (some ⟨b, 0, none⟩)) (hb : w.heap[b]? = some (.mapIter (some bm) since seen last))
    (hm : w.heap[bm]? = some (.map es clock)) (hold : ∀ x ∈ es.toList, x.born < since) (hsc : since ≤ last) (hDone : leftPos es.toList seen = [] → wpListIn F n P ops Q rest (a.put o.dst (.tuple #[.bool false])) w)
    (hMore : ∀ i x w1, i ∈ leftPos es.toList seen → es.toList[i]? = some x → (w1 = w ∨ w1 = w.drew) → wpListIn F n P ops Q rest (a.put o.dst (.tuple #[.bool true, x.key, x.val])) (setBlk w1 b (.mapIter (some bm) since (seen.push x.born) clock))) :
    wpListIn F n P ops Q (o :: rest) a w := by
  rcases run_nextM (P := P) o.type hb hm hold hsc with ⟨i1, i2⟩ | ⟨i, u, w1, i1, i2, i3, i4⟩
  · exact wpListIn_next_run hg it hop (by rw [hit]; exact i2) (hDone i1)
  · exact wpListIn_next_run hg it hop (by rw [hit]; exact i4) (hMore i u w1 i1 i2 i3)
theorem wpListIn_lookup_run (hg : o.guard = none) (m x : Operand) (t : TypeId) (ok : Bool) (hop : o.op = Op.lookup t m x ok) (hrun : (Instr.lookup t (a.eval m) (a.eval x) ok).run P w = .ok v w') (hK : wpListIn F n P ops Q rest (a.put o.dst v) w') : wpListIn F n P ops Q (o :: rest) a w := by
  refine wpListIn_plain hg fun K' hK' => ?_
  unfold Oper.wpIn
  refine ⟨by simp [Oper.about, hop], ?_⟩
  rw [Oper.semAt_plain F _ _ (by rw [hop]; intro c hc'; cases hc')]
  simp [execOp, hop, hrun, Result.andThen]
  exact hK' _ _ hK
theorem wpListIn_update_run (hg : o.guard = none) (m x y : Operand) (t : TypeId) (hop : o.op = Op.mapUpdate t m x y) (hrun : (Instr.mapUpdate t (a.eval m) (a.eval x) (a.eval y)).run P w = .ok () w') (hK : wpListIn F n P ops Q rest (a.put o.dst undef) w') : wpListIn F n P ops Q (o :: rest) a w := by
  refine wpListIn_plain hg fun K' hK' => ?_
  unfold Oper.wpIn
  refine ⟨by simp [Oper.about, hop], ?_⟩
  rw [Oper.semAt_plain F _ _ (by rw [hop]; intro c hc'; cases hc')]
  simp [execOp, hop, hrun, Result.andThen]
  exact hK' _ _ hK
end
theorem grown_setBlk (w : World) (b : Nat) (o : Obj) : w.grownBy (setBlk w b o) (some b) :=
  ⟨rfl, rfl, rfl, by simp [setBlk], fun k _ hk => setBlk_old w b o (fun e => hk (by rw [e]))⟩
theorem grown_drew (w : World) : w.grownBy w.drew none := ⟨rfl, rfl, rfl, Nat.le_refl _, fun _ _ _ => rfl⟩
theorem run_entryM {P : Program} {w : World} {b bm since last : Nat} {seen : Array Nat} {es : Array MapEntry} {x : MapEntry} {i : Nat} (hb : w.heap[b]? = some (.mapIter (some bm) since (seen.push x.born) last)) (hm : w.heap[bm]? = some (.map es last)) (hst : Stamps es.toList last) (hi : es.toList[i]? = some x) :
    (Instr.entry (.pointer (some ⟨b, 0, none⟩))).run P w = .ok (.tuple #[x.key, x.val]) w := by
  have hf : es.find? (·.born == x.born) = some x := by rw [← Array.find?_toList]; exact find_stamp hst.2 hi
  simp [Instr.entry, run_getI hb (by simp), run_getI hm (by simp), hf]
theorem filter_perm {l : List Nat} (hn : l.Nodup) {i : Nat} (hi : i ∈ l) : l.Perm (i :: l.filter fun r => !(Nat.beq r i)) := by
  have he : (l.filter fun r => !(Nat.beq r i)) = l.erase i := by
    rw [hn.erase_eq_filter]
    refine List.filter_congr fun r _ => ?_
    cases hb : Nat.beq r i with
    | true => have := Nat.eq_of_beq_eq_true hb; subst this; simp
    | false => have : r ≠ i := fun e => by subst e; simp at hb
               simp [this]
  rw [he]
  exact List.perm_cons_erase hi
theorem leftPos_nodup (es : List MapEntry) (seen : Array Nat) : (leftPos es seen).Nodup := List.Nodup.sublist List.filter_sublist List.nodup_range
theorem leftPos_nil (es : List MapEntry) : leftPos es #[] = List.range es.length := by
  unfold leftPos
  rw [List.filter_eq_self]
  intro i hi
  have hi' : i < es.length := by simpa using hi
  rw [List.getElem?_eq_getElem hi']
  simp
def leftNum (w : World) (r b : Nat) : Nat := match w.heap[r]?, w.heap[b]? with
  | some (.mapIter _ _ seen _), some (.map es _) => (leftPos es.toList seen).length
  | _, _ => 0
end Go.Av

/- The limit of growing fuel. No condition. -/
namespace Go.Av
def IsLim {α : Type} (a : R α) (b : Nat → R α) : Prop := (a ≠ .fail → ∃ N, ∀ n, N ≤ n → b n = a) ∧ ∀ n, b n ≠ .fail → b n = a
def LimM {α : Type} (m : M α) (ms : Nat → M α) : Prop := ∀ h, IsLim (m h) fun n => ms n h
def LimF {α β : Type} (f : β → M α) (fs : Nat → β → M α) : Prop := ∀ x, LimM (f x) fun n => fs n x
theorem IsLim.const {α : Type} (a : R α) : IsLim a fun _ => a := ⟨fun _ => ⟨0, fun _ _ => rfl⟩, fun _ _ => rfl⟩
theorem LimM.const {α : Type} (m : M α) : LimM m fun _ => m := fun _ => .const _
theorem LimF.const {α β : Type} (f : β → M α) : LimF f fun _ => f := fun _ => .const _
theorem LimM.bnd {α β : Type} {m : M α} {ms : Nat → M α} {f : α → M β} {fs : Nat → α → M β} (hm : LimM m ms) (hf : LimF f fs) : LimM (bnd m f) fun n => bnd (ms n) (fs n) := by
  intro h
  obtain ⟨h1, h2⟩ := hm h
  (try dsimp only at h1 h2)
  refine ⟨fun hne => ?_, fun n hne => ?_⟩
  · have hne' : m h ≠ .fail := fun hf => by simp only [Av.bnd] at hne; rw [hf] at hne; exact hne rfl
    obtain ⟨N, hN⟩ := h1 hne'
    cases hmh : m h with
    | fail => exact absurd hmh hne'
    | pan v x =>
      refine ⟨N, fun n hn => ?_⟩
      (try dsimp only)
      simp only [Av.bnd]
      rw [hN n hn, hmh]
    | ok a x =>
      have hne2 : f a x ≠ .fail := fun hf => by simp only [Av.bnd] at hne; rw [hmh] at hne; exact hne hf
      obtain ⟨N2, hN2⟩ := (hf a x).1 hne2
      refine ⟨max N N2, fun n hn => ?_⟩
      (try dsimp only)
      simp only [Av.bnd]
      rw [hN n (by omega), hmh]
      exact hN2 n (by omega)
  · (try dsimp only at hne ⊢)
    simp only [Av.bnd] at hne ⊢
    have hne' : ms n h ≠ .fail := fun hf => by rw [hf] at hne; exact hne rfl
    rw [← h2 n hne']
    cases hmh : ms n h with
    | fail => exact absurd hmh hne'
    | pan v x => rfl
    | ok a x =>
      rw [hmh] at hne
      exact (hf a x).2 n hne
def LeM {α : Type} (m m' : M α) : Prop := ∀ h, m h ≠ .fail → m h = m' h
theorem LimM.le {α : Type} {m : M α} {ms : Nat → M α} (h : LimM m ms) (n : Nat) : LeM (ms n) m := fun x hne => (h x).2 n hne
section
variable {ρ : Type}
def Cont1 (F : (List AV → M ρ) → List AV → M ρ) (Fs : Nat → (List AV → M ρ) → List AV → M ρ) : Prop := ∀ self selfs, LimF self selfs → LimF (F self) fun n => Fs n (selfs n)
def ContC (F : (List AV → M ρ) → List AV → M ρ) : Prop := Cont1 F fun _ => F
def FixRel (fx : Fix ρ) (fxs : Nat → Fix ρ) : Prop := ∀ F Fs, Cont1 F Fs → ContC F → (∀ n, ContC (Fs n)) → LimF (fx F) fun n => fxs n (Fs n)
def FixC (fx : Fix ρ) : Prop := FixRel fx fun _ => fx
theorem ContC.mono {F : (List AV → M ρ) → List AV → M ρ} (hF : ContC F) {s s' : List AV → M ρ} (h : ∀ vs, LeM (s vs) (s' vs)) : ∀ vs, LeM (F s vs) (F s' vs) := by
  intro vs x hne
  have hl : LimF s' (fun n => if n = 0 then s else s') := by
    intro vs x
    refine ⟨fun _ => ⟨1, fun n hn => ?_⟩, fun n hne => ?_⟩
    · (try dsimp only)
      rw [if_neg (by omega)]
    · (try dsimp only at hne ⊢)
      by_cases h0 : n = 0
      · rw [if_pos h0] at hne ⊢; exact h vs x hne
      · rw [if_neg h0]
  have h0 := (hF s' _ hl vs x).2 0
  (try dsimp only at h0)
  rw [if_pos rfl] at h0
  exact h0 hne
theorem fixM_mono {F : (List AV → M ρ) → List AV → M ρ} (hF : ContC F) : ∀ n vs, LeM (fixM n F vs) (fixM (n + 1) F vs)
  | 0, _vs => fun _x hne => absurd rfl hne
  | n + 1, vs => hF.mono (fixM_mono hF n) vs
theorem LeM.trans {α : Type} {a b c : M α} (h : LeM a b) (g : LeM b c) : LeM a c := fun x hne => by
  have := h x hne
  rw [this]
  exact g x (this ▸ hne)
theorem LeM.refl {α : Type} (a : M α) : LeM a a := fun _ _ => rfl
theorem fixM_mono' {F : (List AV → M ρ) → List AV → M ρ} (hF : ContC F) {n m : Nat} (h : n ≤ m) (vs : List AV) : LeM (fixM n F vs) (fixM m F vs) := by
  induction m with
  | zero => have : n = 0 := by omega
            subst this; exact .refl _
  | succ m ih =>
    by_cases hn : n = m + 1
    · subst hn; exact .refl _
    · exact (ih (by omega)).trans (fixM_mono hF m vs)
open Classical in
noncomputable def fixW (F : (List AV → M ρ) → List AV → M ρ) (vs : List AV) : M ρ := fun h => if hx : ∃ n, fixM n F vs h ≠ .fail then fixM (Classical.choose hx) F vs h else .fail
theorem chain_lim {b : Nat → R ρ} (hmono : ∀ n m, n ≤ m → b n ≠ .fail → b n = b m) {a : R ρ} (ha : (∃ n, b n ≠ .fail ∧ a = b n) ∨ (∀ n, b n = .fail) ∧ a = .fail) : IsLim a b := by
  rcases ha with ⟨n, hn, rfl⟩ | ⟨hn, rfl⟩
  · refine ⟨fun _ => ⟨n, fun m hm => (hmono n m hm hn).symm⟩, fun m hm => ?_⟩
    rcases Nat.le_total n m with h | h
    · exact (hmono n m h hn).symm
    · exact hmono m n h hm
  · exact ⟨fun h => absurd rfl h, fun n h => absurd (hn n) h⟩
theorem fixW_lim {F : (List AV → M ρ) → List AV → M ρ} (hF : ContC F) : LimF (fixW F) fun n => fixM n F := by
  intro vs h
  refine chain_lim (fun n m hnm hne => fixM_mono' hF hnm vs h hne) ?_
  unfold fixW
  by_cases hx : ∃ n, fixM n F vs h ≠ .fail
  · left
    simp only [dif_pos hx]
    exact ⟨_, Classical.choose_spec hx, rfl⟩
  · right
    simp only [dif_neg hx]
    exact ⟨fun n => Classical.byContradiction fun h => hx ⟨n, h⟩, trivial⟩
theorem fixM_le {F : (List AV → M ρ) → List AV → M ρ} {Fs : Nat → (List AV → M ρ) → List AV → M ρ} (h1 : Cont1 F Fs) (n : Nat) : ∀ k vs, LeM (fixM k (Fs n) vs) (fixM k F vs)
  | 0, vs => .refl _
  | k + 1, vs => by
    have ih := fixM_le h1 n k
    have hl : LimF (fixM k F) fun m => if m = n then fixM k (Fs n) else fixM k F := by
      intro vs h
      refine ⟨fun _ => ⟨n + 1, fun m hm => by (try dsimp only); rw [if_neg (by omega)]⟩, fun m hne => ?_⟩
      (try dsimp only at hne ⊢)
      by_cases hm : m = n
      · rw [if_pos hm] at hne ⊢; exact ih vs h hne
      · rw [if_neg hm]
    intro x hne
    have := (h1 _ _ hl vs x).2 n
    (try dsimp only at this)
    rw [if_pos rfl] at this
    exact this hne
theorem fixM_lim {F : (List AV → M ρ) → List AV → M ρ} {Fs : Nat → (List AV → M ρ) → List AV → M ρ} (h1 : Cont1 F Fs) : ∀ k, LimF (fixM k F) fun n => fixM k (Fs n)
  | 0 => fun _ _ => .const _
  | k + 1 => h1 _ _ (fixM_lim h1 k)
theorem fixRel_fuel : FixRel (fixW (ρ := ρ)) fun n => fixM n := by
  intro F Fs h1 hF hFs vs h
  refine ⟨fun hne => ?_, fun n hne => ?_⟩
  · obtain ⟨N, hN⟩ := (fixW_lim hF vs h).1 hne
    have hN' := hN N (Nat.le_refl _)
    (try dsimp only at hN')
    obtain ⟨N2, hN2⟩ := (fixM_lim h1 N vs h).1 (by rw [hN']; exact hne)
    refine ⟨max N N2, fun n hn => ?_⟩
    have h3 := hN2 n (by omega)
    (try dsimp only at h3 ⊢)
    rw [← fixM_mono' (hFs n) (show N ≤ n by omega) vs h (by rw [h3, hN']; exact hne), h3, hN']
  · (try dsimp only at hne ⊢)
    have h2 := fixM_le h1 n n vs h hne
    rw [h2]
    exact (fixW_lim hF vs h).2 n (by (try dsimp only); rw [← h2]; exact hne)
theorem fixC_W : FixC (fixW (ρ := ρ)) := by
  intro F Fs h1 hF hFs vs h
  refine ⟨fun hne => ?_, fun n hne => ?_⟩
  · obtain ⟨N, hN⟩ := (fixW_lim hF vs h).1 hne
    have hN' := hN N (Nat.le_refl _)
    (try dsimp only at hN')
    obtain ⟨N2, hN2⟩ := (fixM_lim h1 N vs h).1 (by rw [hN']; exact hne)
    refine ⟨N2, fun n hn => ?_⟩
    have h3 := hN2 n hn
    (try dsimp only at h3 ⊢)
    have := (fixW_lim (hFs n) vs h).2 N (by (try dsimp only); rw [h3, hN']; exact hne)
    (try dsimp only at this)
    rw [← this, h3, hN']
  · (try dsimp only at hne ⊢)
    obtain ⟨N, hN⟩ := (fixW_lim (hFs n) vs h).1 hne
    have hN' := hN N (Nat.le_refl _)
    (try dsimp only at hN')
    have h2 := fixM_le h1 n N vs h (by rw [hN']; exact hne)
    rw [← hN', h2]
    exact (fixW_lim hF vs h).2 N (by (try dsimp only); rw [← h2, hN']; exact hne)
theorem fixC_M (m : Nat) : FixC (fixM (α := ρ) m) := fun _F _Fs h1 _hF _hFs => fixM_lim h1 m
theorem fixRel_step (m : Nat) : FixRel (fixM (α := ρ) (m + 1)) fun n => if n = 0 then fixM m else fixM (m + 1) := by
  intro F Fs h1 hF hFs vs h
  refine ⟨fun hne => ?_, fun n hne => ?_⟩
  · obtain ⟨N, hN⟩ := (fixM_lim h1 (m + 1) vs h).1 hne
    refine ⟨max N 1, fun n hn => ?_⟩
    (try dsimp only)
    rw [if_neg (by omega)]
    exact hN n (by omega)
  · (try dsimp only at hne ⊢)
    by_cases h0 : n = 0
    · rw [if_pos h0] at hne ⊢
      exact ((fixM_le h1 n m vs).trans (fixM_mono hF m vs)) h hne
    · rw [if_neg h0] at hne ⊢
      exact fixM_le h1 n (m + 1) vs h hne
end
end Go.Av

/- The limit of growing fuel: code. Condition: the functions that are known by other means are continuous. -/
namespace Go.Av
def Cx.wc (cx : Cx) (call : FuncId → List AV → M AV) : Cx := { cx with call }
def ActLim (A : Act1) (As : Nat → Act1) : Prop :=
  (∀ n, As n = A) ∨ ∃ m ms sh, A = .dyn m sh ∧ (∀ n, As n = .dyn (ms n) sh) ∧ LimM m ms
section
variable {ρ : Type} {cx : Cx} {call : FuncId → List AV → M AV} {calls : Nat → FuncId → List AV → M AV}
theorem opCall_lim (hc : ∀ f, LimF (call f) fun n => calls n f) (e : Env) (gid : Nat) (o : Oper) (c : Call) : ActLim (opCall (cx.wc call) e gid o c) fun n => opCall (cx.wc (calls n)) e gid o c := by
  unfold opCall
  cases c.callee with
  | invoke r m => exact .inl fun n => rfl
  | builtin b => cases b <;> exact .inl fun n => rfl
  | value x =>
    have hv : ActLim (.dyn (callV call (opnd e x) (c.args.toList.map (opnd e))) .ofV) fun n => .dyn (callV (calls n) (opnd e x) (c.args.toList.map (opnd e))) .ofV := by
      refine .inr ⟨_, _, _, rfl, fun n => rfl, ?_⟩
      unfold callV
      split
      · exact hc _ _
      · exact LimM.const _
    cases x with
    | func f =>
      have h0 : ActLim (.dyn (call f (c.args.toList.map (opndT (memO cx.ann.hb o.dst) e))) fun v => match cx.own f with | some sz => .own v gid (some sz) | none => .ofV v) fun n => .dyn (calls n f (c.args.toList.map (opndT (memO cx.ann.hb o.dst) e))) fun v => match cx.own f with | some sz => .own v gid (some sz) | none => .ofV v :=
        .inr ⟨_, _, _, rfl, fun n => rfl, hc _ _⟩
      have key2 : ∀ (b : Bool) (A B : Act1) (As Bs : Nat → Act1), ActLim A As → ActLim B Bs → ActLim (bif b then A else B) fun n => bif b then As n else Bs n := by
        intro b A B As Bs hA hB
        cases b with
        | true => exact hA
        | false => exact hB
      have key : ∀ b : Bool, ActLim (bif b then .dyn (bnd (call f (c.args.toList.map (opnd e))) fzM) .ofV else .bad) fun n => bif b then .dyn (bnd (calls n f (c.args.toList.map (opnd e))) fzM) .ofV else .bad := by
        intro b
        cases b with
        | false => exact .inl fun n => rfl
        | true => exact .inr ⟨_, _, _, rfl, fun n => rfl, (hc _ _).bnd (LimF.const _)⟩
      exact key2 (memO cx.ann.fz o.dst) _ _ _ _ (key (!(cx.iso f) && !(cx.nw f) && (cx.own f).isNone)) h0
    | tmp t => exact hv
    | const t => exact hv
    | global t => exact hv
theorem opD_lim (hc : ∀ f, LimF (call f) fun n => calls n f) (e : Env) (gid : Nat) (o : Oper) : ActLim (opD (cx.wc call) e gid o) fun n => opD (cx.wc (calls n)) e gid o := by
  unfold opD
  cases o.op <;> first | exact .inl fun n => rfl | exact opCall_lim hc e gid o _
theorem stripA_lim {A : Act1} {As : Nat → Act1} (h : ActLim A As) : ActLim (stripA A) fun n => stripA (As n) := by
  rcases h with h | ⟨m, ms, sh, rfl, h2, h3⟩
  · exact .inl fun n => by (try dsimp only); rw [h]
  · exact .inr ⟨m, ms, _, rfl, fun n => by (try dsimp only); rw [h2]; rfl, h3⟩
theorem evAct_lim {A : Act1} {As : Nat → Act1} (h : ActLim A As) {k : Env → M ρ} {ks : Nat → Env → M ρ} (hk : LimF k ks) (e : Env) (d : Option Tmp) : LimM (evAct e d A k) fun n => evAct e d (As n) (ks n) := by
  rcases h with h | ⟨m, ms, sh, rfl, h2, h3⟩
  · have : (fun n => evAct e d (As n) (ks n)) = fun n => evAct e d A (ks n) := by funext n; rw [h]
    rw [this]
    cases A with
    | bad => exact LimM.const _
    | stat u => exact hk _
    | dyn m sh => exact (LimM.const m).bnd fun v => hk _
    | thr v => exact LimM.const _
  · have : (fun n => evAct e d (As n) (ks n)) = fun n => evAct e d (.dyn (ms n) sh) (ks n) := by funext n; rw [h2]
    rw [this]
    exact h3.bnd fun v => hk _
theorem evRun_lim (hc : ∀ f, LimF (call f) fun n => calls n f) (base : Nat) (ops : Array Oper) (st : Bool) : ∀ (is : List Nat) (e : Env) (k : Env → M ρ) (ks : Nat → Env → M ρ), LimF k ks →
    LimM (evRun (cx.wc call) base ops st is e k) fun n => evRun (cx.wc (calls n)) base ops st is e (ks n)
  | [], e, k, ks, hk => hk e
  | i :: is, e, k, ks, hk => by
    simp only [evRun]
    cases ops[i]? with
    | none => exact LimM.const _
    | some o =>
      simp only
      refine evAct_lim ?_ (fun e' => evRun_lim hc base ops st is e' k ks hk) e o.dst
      cases st with
      | true => exact stripA_lim (opD_lim hc e _ o)
      | false => exact opD_lim hc e _ o
theorem guardM_lim {c : AV} {want : Bool} {k : Nat} {m : M (List AV)} {ms : Nat → M (List AV)} (h : LimM m ms) : LimM (guardM c want k m) fun n => guardM c want k (ms n) := by
  unfold guardM
  cases c with
  | bool b =>
    simp only
    cases b == want with
    | true => exact h
    | false => exact LimM.const _
  | tup vs => cases vs <;> exact LimM.const _
  | _ => exact LimM.const _
theorem evGrps_lim (hc : ∀ f, LimF (call f) fun n => calls n f) (base : Nat) (ops : Array Oper) : ∀ (gs : List (Option (Nat × Bool) × List Nat)) (e : Env) (k : Env → M ρ) (ks : Nat → Env → M ρ), LimF k ks →
    LimM (evGrps (cx.wc call) base ops gs e k) fun n => evGrps (cx.wc (calls n)) base ops gs e (ks n)
  | [], e, k, ks, hk => hk e
  | (none, is) :: gs, e, k, ks, hk => by
    simp only [evGrps]
    exact evRun_lim hc base ops false is e _ _ fun e' => evGrps_lim hc base ops gs e' k ks hk
  | (some (j, want), is) :: gs, e, k, ks, hk => by
    simp only [evGrps]
    cases dstOf ops j with
    | none => exact LimM.const _
    | some t =>
      simp only
      have hp : ∀ c, (is.all fun i => match ops[i]? with | some o => plainOp (cx.wc c) o && o.dst.isSome | none => false) = (is.all fun i => match ops[i]? with | some o => plainOp cx o && o.dst.isSome | none => false) := fun c => rfl
      have key : ∀ b : Bool, LimM (bif b then bnd (guardM (e.av t) want (outsOf ops is gs).length (evRun (cx.wc call) base ops true is e fun e' => bif (outsOf ops is gs).all (fun t => isValE (e'.get t)) then M.pure ((outsOf ops is gs).map e'.av) else M.fail)) fun vs =>
          evGrps (cx.wc call) base ops gs (setOuts (forget e (dstsOf ops is)) vs 0 (outsOf ops is gs)) k else M.fail) fun n => (bif b then bnd (guardM (e.av t) want (outsOf ops is gs).length (evRun (cx.wc (calls n)) base ops true is e fun e' => bif (outsOf ops is gs).all (fun t => isValE (e'.get t)) then M.pure ((outsOf ops is gs).map e'.av) else M.fail)) fun vs =>
          evGrps (cx.wc (calls n)) base ops gs (setOuts (forget e (dstsOf ops is)) vs 0 (outsOf ops is gs)) (ks n) else M.fail) := by
        intro b
        cases b with
        | false => exact LimM.const _
        | true => exact (guardM_lim (evRun_lim hc base ops true is e _ _ (LimF.const _))).bnd fun vs => evGrps_lim hc base ops gs _ k ks hk
      exact key _
theorem noPan_lim {α : Type} {m : M α} {ms : Nat → M α} (h : LimM m ms) : LimM (noPan m) fun n => noPan (ms n) := by
  intro x
  obtain ⟨h1, h2⟩ := h x
  refine ⟨fun hne => ?_, fun n hne => ?_⟩
  · have hne' : m x ≠ .fail := fun hf => hne (by simp only [noPan, hf])
    obtain ⟨N, hN⟩ := h1 hne'
    exact ⟨N, fun n hn => by have := hN n hn; (try dsimp only at this ⊢); simp only [noPan, this]⟩
  · (try dsimp only at hne ⊢)
    have hne' : ms n x ≠ .fail := fun hf => hne (by simp only [noPan, hf])
    have := h2 n hne'
    (try dsimp only at this)
    simp only [noPan, this]
theorem cxDraw_lim (hc : ∀ f, LimF (call f) fun n => calls n f) : ∀ f, LimF ((cxDraw (cx.wc call)).call f) fun n => (cxDraw (cx.wc (calls n))).call f := by
  intro f args
  show LimM (bif cx.iso f then noPan (call f args) else call f args) fun n => (bif cx.iso f then noPan (calls n f args) else calls n f args)
  cases cx.iso f with
  | true => exact noPan_lim (hc f args)
  | false => exact hc f args
theorem indep_wc (c : FuncId → List AV → M AV) (ops : Array Oper) (i j : Nat) : indep (cx.wc c) ops i j = indep cx ops i j := rfl
theorem pairsOk_wc (c : FuncId → List AV → M AV) (ops : Array Oper) (bf : List Nat) : ∀ l, pairsOk (cx.wc c) ops bf l = pairsOk cx ops bf l
  | [] => rfl
  | i :: is => by simp only [pairsOk, pairsOk_wc c ops bf is, indep_wc]
theorem drawOk_wc (c : FuncId → List AV → M AV) (ops : Array Oper) (ord : List Nat) : drawOk (cx.wc c) ops ord = drawOk cx ops ord := by
  unfold drawOk; rw [pairsOk_wc]
theorem evReg_lim (hc : ∀ f, LimF (call f) fun n => calls n f) (id : Nat) (ops : Array Oper) (draw : Bool) (e : Env) {k : Env → M ρ} {ks : Nat → Env → M ρ} (hk : LimF k ks) :
    LimM (evReg (cx.wc call) id ops draw e k) fun n => evReg (cx.wc (calls n)) id ops draw e (ks n) := by
  unfold evReg
  simp only [drawOk_wc]
  have hk' : LimF (fun e' : Env => k { e' with nx := e.nx + ops.size }) fun n e' => ks n { e' with nx := e.nx + ops.size } := fun e' => hk _
  have key : ∀ b1 b2 : Bool, LimM (bif b1 then (bif draw then (bif b2 then evGrps (cxDraw (cx.wc call)) e.nx ops (groupsOf ops (ordOf cx id ops.size)) e fun e' => k { e' with nx := e.nx + ops.size } else M.fail)
      else evGrps (cx.wc call) e.nx ops (groupsOf ops (List.range ops.size)) e fun e' => k { e' with nx := e.nx + ops.size }) else M.fail) fun n => (bif b1 then (bif draw then (bif b2 then evGrps (cxDraw (cx.wc (calls n))) e.nx ops (groupsOf ops (ordOf cx id ops.size)) e fun e' => ks n { e' with nx := e.nx + ops.size } else M.fail)
      else evGrps (cx.wc (calls n)) e.nx ops (groupsOf ops (List.range ops.size)) e fun e' => ks n { e' with nx := e.nx + ops.size }) else M.fail) := by
    intro b1 b2
    cases b1 with
    | false => exact LimM.const _
    | true =>
      cases draw with
      | false => exact evGrps_lim hc _ _ _ _ _ _ hk'
      | true =>
        cases b2 with
        | false => exact LimM.const _
        | true => exact evGrps_lim (cx := cx) (call := (cxDraw (cx.wc call)).call) (calls := fun n => (cxDraw (cx.wc (calls n))).call) (cxDraw_lim hc) _ _ _ _ _ _ hk'
  exact key (dstsSmall cx.nt ops) (drawOk cx ops (ordOf cx id ops.size))
theorem demM_lim {ps : List Nat} {k : Nat → M ρ} {ks : Nat → Nat → M ρ} (h : ∀ q, LimM (k q) fun n => ks n q) : LimM (demM ps k) fun n => demM ps (ks n) := by
  intro x
  cases ps with
  | nil => exact LimM.const (demM [] k) x
  | cons p ps =>
    unfold demM
    simp only
    refine ⟨fun hne => ?_, fun n hne => ?_⟩
    · by_cases hall : ∀ q ∈ ps, k q x = k p x
      · rw [if_pos hall] at hne ⊢
        have hN : ∀ l : List Nat, (∀ q ∈ l, k q x = k p x) → ∃ N, ∀ n, N ≤ n → ∀ q ∈ l, ks n q x = k p x := by
          intro l
          induction l with
          | nil => intro _; exact ⟨0, fun n _ q hq => by simp at hq⟩
          | cons q l ih =>
            intro hl
            obtain ⟨N1, h1⟩ := ih fun q hq => hl q (by simp [hq])
            have hq := hl q (by simp)
            obtain ⟨N2, h2⟩ := (h q x).1 (by rw [hq]; exact hne)
            refine ⟨max N1 N2, fun n hn r hr => ?_⟩
            rcases List.mem_cons.1 hr with rfl | hr
            · have := h2 n (by omega)
              (try dsimp only at this)
              rw [this, hq]
            · exact h1 n (by omega) r hr
        obtain ⟨N, h1⟩ := hN (p :: ps) (fun q hq => by rcases List.mem_cons.1 hq with rfl | hq; rfl; exact hall q hq)
        refine ⟨N, fun n hn => ?_⟩
        have hp := h1 n hn p (by simp)
        (try dsimp only)
        rw [if_pos fun q hq => by rw [hp]; exact h1 n hn q (by simp [hq]), hp]
      · rw [if_neg hall] at hne; exact absurd rfl hne
    · (try dsimp only at hne ⊢)
      by_cases hall : ∀ q ∈ ps, ks n q x = ks n p x
      · rw [if_pos hall] at hne ⊢
        have hp := (h p x).2 n hne
        (try dsimp only at hp)
        have hq : ∀ q ∈ ps, k q x = k p x := fun q hq => by
          have := (h q x).2 n (by (try dsimp only); rw [hall q hq]; exact hne)
          (try dsimp only at this)
          rw [← this, hall q hq, hp]
        rw [if_pos hq, hp]
      · rw [if_neg hall] at hne; exact absurd rfl hne
theorem nxtM_cases (x : AV) (y : Hp) : (∃ h', ∀ kf kt : M ρ, nxtM x kf kt y = kf h') ∨
    (∃ (ps : List Nat) (g : Nat → Hp → Hp), ∀ kf kt : M ρ, nxtM x kf kt y = demM ps (fun q h => kt (g q h)) y) ∨ ∀ kf kt : M ρ, nxtM x kf kt y = .fail := by
  cases x with
  | it l =>
    cases hl : y[l]? with
    | none => right; right; intro kf kt; simp only [nxtM, hl]
    | some cs =>
      by_cases h1 : cs = [.tup [], .nilm]
      · left; subst h1; exact ⟨y.set l [], fun kf kt => by simp only [nxtM, hl]⟩
      · by_cases h2 : ∃ m n qs cu, cs = [.tup [], .mp m, .int .i64 n, .sl qs, cu]
        · obtain ⟨m, n, qs, cu, rfl⟩ := h2
          by_cases h3 : ∃ es, y[m]? = some [.tup es] ∧ (es.length : Int) = n
          · obtain ⟨es, hm, hn⟩ := h3
            cases hq : qs.map natOf with
            | nil => left; exact ⟨y.set l [], fun kf kt => by simp only [nxtM, hl, hm, if_pos hn, hq]⟩
            | cons p ps =>
              right; left
              exact ⟨p :: ps, fun q h => h.set l [.tup [], .mp m, .int .i64 n, posA ((p :: ps).filter fun r => !(Nat.beq r q)), .int .i64 (q : Nat)], fun kf kt => by simp only [nxtM, hl, hm, if_pos hn, hq]⟩
          · right; right
            intro kf kt
            simp only [nxtM, hl]
            split
            · rename_i es hm
              rw [if_neg fun hn => h3 ⟨es, hm, hn⟩]
            · rfl
        · right; right
          intro kf kt
          simp only [nxtM, hl]
          split
          · rename_i hes; simp only [Option.some.injEq] at hes; exact absurd hes h1
          · rename_i m n qs cu hes; simp only [Option.some.injEq] at hes; exact absurd ⟨m, n, qs, cu, hes⟩ h2
          · rfl
  | _ => right; right; intro kf kt; rfl
theorem nxtM_lim {kf kt : M ρ} {kfs kts : Nat → M ρ} (h1 : LimM kf kfs) (h2 : LimM kt kts) (x : AV) : LimM (nxtM x kf kt) fun n => nxtM x (kfs n) (kts n) := by
  intro y
  rcases nxtM_cases (ρ := ρ) x y with ⟨h', hk⟩ | ⟨ps, g, hk⟩ | hk
  · simp only [hk]; exact h1 h'
  · simp only [hk]
    exact demM_lim (k := fun q h => kt (g q h)) (ks := fun n q h => kts n (g q h)) (fun q z => h2 (g q z)) y
  · simp only [hk]
    exact IsLim.const _
theorem evRegN_lim (hc : ∀ f, LimF (call f) fun n => calls n f) (id : Nat) (ops : Array Oper) (draw : Bool) (e : Env) {k : Env → M ρ} {ks : Nat → Env → M ρ} (hk : LimF k ks) :
    LimM (evRegN (cx.wc call) id ops draw e k) fun n => evRegN (cx.wc (calls n)) id ops draw e (ks n) := by
  unfold evRegN
  cases nextOf ops draw with
  | none => exact evReg_lim hc id ops draw e hk
  | some q =>
    obtain ⟨p, d, q⟩ := q
    have key : ∀ b : Bool, LimM (bif b then nxtM (e.av p) (k ((e.set d Ent.none).set q ⟨.val (.bool false), none⟩)) (k ((e.set d Ent.none).set q ⟨.val (.bool true), none⟩)) else M.fail)
        fun n => (bif b then nxtM (e.av p) (ks n ((e.set d Ent.none).set q ⟨.val (.bool false), none⟩)) (ks n ((e.set d Ent.none).set q ⟨.val (.bool true), none⟩)) else M.fail) := by
      intro b
      cases b with
      | false => exact LimM.const _
      | true => exact nxtM_lim (hk _) (hk _) _
    exact key (decide (p < 1000) && decide (d < cx.nt) && decide (q < cx.nt))
theorem toJ_lim {ja : JA} {j : List AV → M ρ} {js : Nat → List AV → M ρ} (h : LimF j js) (e : Env) : LimM (toJ ja j e) fun n => toJ ja (js n) e := by
  unfold toJ
  cases pack ja e with
  | none => exact LimM.const _
  | some vs =>
    simp only
    cases ja.fz with
    | true => simp only [cond_true]; exact (LimM.const (fzL vs)).bnd h
    | false => exact h vs
theorem ev_lim : ∀ (n : Nat) (code : Code), SizeOf.sizeOf code < n → ∀ (call : FuncId → List AV → M AV) (calls : Nat → FuncId → List AV → M AV) (fx : Fix ρ) (fxs : Nat → Fix ρ), (∀ f, LimF (call f) fun n => calls n f) → FixRel fx fxs → FixC fx → (∀ n, FixC (fxs n)) →
    ∀ (e : Env) (kn : Env → M ρ) (kns : Nat → Env → M ρ) (kx : Nat → Env → M ρ) (kxs : Nat → Nat → Env → M ρ) (kr : Env → M ρ) (krs : Nat → Env → M ρ), LimF kn kns → (∀ i, LimF (kx i) fun n => kxs n i) → LimF kr krs →
    LimM (ev (cx.wc call) fx code e kn kx kr) fun n => ev (cx.wc (calls n)) (fxs n) code e (kns n) (kxs n) (krs n) := by
  intro n
  induction n with
  | zero => intro code hn; omega
  | succ n ih =>
    intro code hn call calls fx fxs hc hfx hfc hfcs e kn kns kx kxs kr krs hkn hkx hkr
    cases code <;> (try exact LimM.const _)
    case skip => exact hkn e
    case exit id => exact hkx id e
    case ret => exact hkr e
    case region id ops draw => exact evRegN_lim hc id ops draw e hkn
    case seq x y =>
      have hx : SizeOf.sizeOf x < n := by simp at hn; omega
      have hy : SizeOf.sizeOf y < n := by simp at hn; omega
      simp only [ev]
      have hya : ∀ e, LimM (ev (cx.wc call) fx y e kn kx kr) fun n => ev (cx.wc (calls n)) (fxs n) y e (kns n) (kxs n) (krs n) := fun e => ih y hy call calls fx fxs hc hfx hfc hfcs e kn kns kx kxs kr krs hkn hkx hkr
      have key : ∀ oj : Option JA, LimM (match oj with | some ja => jn (fun vs => ev (cx.wc call) fx y (unpack ja vs) kn kx kr) fun j => ev (cx.wc call) fx x e (toJ ja j) kx kr | none => ev (cx.wc call) fx x e (fun e' => ev (cx.wc call) fx y e' kn kx kr) kx kr)
          fun n => (match oj with | some ja => jn (fun vs => ev (cx.wc (calls n)) (fxs n) y (unpack ja vs) (kns n) (kxs n) (krs n)) fun j => ev (cx.wc (calls n)) (fxs n) x e (toJ ja j) (kxs n) (krs n) | none => ev (cx.wc (calls n)) (fxs n) x e (fun e' => ev (cx.wc (calls n)) (fxs n) y e' (kns n) (kxs n) (krs n)) (kxs n) (krs n)) := by
        intro oj
        cases oj with
        | none => exact ih x hx call calls fx fxs hc hfx hfc hfcs e _ (fun n e' => ev (cx.wc (calls n)) (fxs n) y e' (kns n) (kxs n) (krs n)) kx kxs kr krs hya hkx hkr
        | some ja => exact ih x hx call calls fx fxs hc hfx hfc hfcs e _ (fun n => toJ ja fun vs => ev (cx.wc (calls n)) (fxs n) y (unpack ja vs) (kns n) (kxs n) (krs n)) kx kxs kr krs (fun e' => toJ_lim (fun vs => hya _) e') hkx hkr
      have h := key (match condKey x with | some t => findJ cx.ann.joins t | none => none)
      exact h
    case cond o x y =>
      have hx : SizeOf.sizeOf x < n := by simp at hn; omega
      have hy : SizeOf.sizeOf y < n := by simp at hn; omega
      cases o <;> (try exact LimM.const _)
      case const v =>
        simp only [ev]
        cases cA v with
        | bool b =>
          cases b with
          | true => exact ih x hx call calls fx fxs hc hfx hfc hfcs e kn kns kx kxs kr krs hkn hkx hkr
          | false => exact ih y hy call calls fx fxs hc hfx hfc hfcs e kn kns kx kxs kr krs hkn hkx hkr
        | _ => exact LimM.const _
      rename_i t
      simp only [ev]
      cases decide (t < 1000) with
      | false => exact LimM.const _
      | true =>
        simp only [cond_true]
        cases e.av t with
        | bool b =>
          cases b with
          | true => exact ih x hx call calls fx fxs hc hfx hfc hfcs e kn kns kx kxs kr krs hkn hkx hkr
          | false => exact ih y hy call calls fx fxs hc hfx hfc hfcs e kn kns kx kxs kr krs hkn hkx hkr
        | _ => exact LimM.const _
    case block id code =>
      have hbx : ∀ (kx : Nat → Env → M ρ) (kxs : Nat → Nat → Env → M ρ) (kn : Env → M ρ) (kns : Nat → Env → M ρ), (∀ i, LimF (kx i) fun n => kxs n i) → LimF kn kns → ∀ i, LimF (fun e' => bif Nat.beq i id then kn e' else kx i e') fun n e' => bif Nat.beq i id then kns n e' else kxs n i e' := by
        intro kx kxs kn kns hkx hkn i e'
        (try dsimp only)
        cases Nat.beq i id with
        | true => exact hkn e'
        | false => exact hkx i e'
      by_cases hcl : ∃ b, code = .loop b
      · obtain ⟨b, rfl⟩ := hcl
        have hb : SizeOf.sizeOf b < n := by simp at hn; omega
        have key : ∀ oj : Option JA, LimM (match oj with | none => M.fail | some ja => toJ ja (fx fun self vs => ev (cx.wc call) fx b (unpack ja vs) (toJ ja self) (fun i e' => bif Nat.beq i id then kn e' else kx i e') kr) e)
            fun n => (match oj with | none => M.fail | some ja => toJ ja (fxs n fun self vs => ev (cx.wc (calls n)) (fxs n) b (unpack ja vs) (toJ ja self) (fun i e' => bif Nat.beq i id then kns n e' else kxs n i e') (krs n)) e) := by
          intro oj
          cases oj with
          | none => exact LimM.const _
          | some ja =>
            refine toJ_lim (hfx _ (fun n self vs => ev (cx.wc (calls n)) (fxs n) b (unpack ja vs) (toJ ja self) (fun i e' => bif Nat.beq i id then kns n e' else kxs n i e') (krs n)) ?_ ?_ ?_) e
            · intro self selfs hs vs
              exact ih b hb call calls fx fxs hc hfx hfc hfcs (unpack ja vs) _ (fun n => toJ ja (selfs n)) _ (fun n i e' => bif Nat.beq i id then kns n e' else kxs n i e') kr krs (fun e' => toJ_lim hs e') (hbx kx kxs kn kns hkx hkn) hkr
            · intro self selfs hs vs
              exact ih b hb call (fun _ => call) fx (fun _ => fx) (fun f => LimF.const _) hfc hfc (fun _ => hfc) (unpack ja vs) _ (fun n => toJ ja (selfs n)) _ (fun n i e' => bif Nat.beq i id then kn e' else kx i e') kr (fun _ => kr) (fun e' => toJ_lim hs e') (fun i => LimF.const _) (LimF.const _)
            · intro m self selfs hs vs
              exact ih b hb (calls m) (fun _ => calls m) (fxs m) (fun _ => fxs m) (fun f => LimF.const _) (hfcs m) (hfcs m) (fun _ => hfcs m) (unpack ja vs) _ (fun n => toJ ja (selfs n)) _ (fun n i e' => bif Nat.beq i id then kns m e' else kxs m i e') (krs m) (fun _ => krs m) (fun e' => toJ_lim hs e') (fun i => LimF.const _) (LimF.const _)
        exact key (findJ cx.ann.loops id)
      · have hs : SizeOf.sizeOf code < n := by simp at hn; omega
        have hev : ∀ (cx : Cx) (fx : Fix ρ) (kn : Env → M ρ) (kx : Nat → Env → M ρ) (kr : Env → M ρ), ev cx fx (.block id code) e kn kx kr = ev cx fx code e kn (fun i e' => bif Nat.beq i id then kn e' else kx i e') kr := by
          intro cx fx kn kx kr
          cases code <;> first | rfl | exact absurd ⟨_, rfl⟩ hcl
        rw [hev]
        have : (fun n => ev (cx.wc (calls n)) (fxs n) (.block id code) e (kns n) (kxs n) (krs n)) = fun n => ev (cx.wc (calls n)) (fxs n) code e (kns n) (fun i e' => bif Nat.beq i id then kns n e' else kxs n i e') (krs n) := by
          funext n; exact hev _ _ _ _ _
        rw [this]
        exact ih code hs call calls fx fxs hc hfx hfc hfcs e kn kns _ (fun n i e' => bif Nat.beq i id then kns n e' else kxs n i e') kr krs hkn (hbx kx kxs kn kns hkx hkn) hkr
end
end Go.Av

/- One operation: memory. Conditions: the table of types is the program's; the calls are right. -/
namespace Go.Av
variable [Dr]
section
variable {P : Program} {cx : Cx} {c : Entry} {N : Nat} {U : Nat → Prop} {e : Env} {h : Hp} {a : Act} {w : World} {S : Stab} {β : List Blk} {γ : Nat → Value} {lam : Nat → Option Nat} {ω : Nat → Owner} {o : Oper} {gid : Nat}
theorem FR.locals (H : FR c N U e h a w S β γ lam ω) {B off n : Nat} (hin : inLb e B off n = true) : ∃ b x m, lbSize e.lb B = some m ∧ off + n ≤ m ∧ lam B = some b ∧ Row w b x ∧ m ≤ x.size ∧
    ∀ i, i < n → ∃ v a', x[off + i]? = some v ∧ (e.get (B + off + i)).v = .val a' ∧ VR S β a' v ∧ ∀ g z, (e.get (B + off + i)).g = some g → aliveG e.al g = some z → v = γ g := by
  unfold inLb at hin
  split at hin
  · rename_i m hm
    have hle : off + n ≤ m := by simp at hin; exact hin.1
    obtain ⟨_, _, _, b, x, h1, h2, h3, h4, h5⟩ := H.lblk B m hm
    have hms : m ≤ x.size := by
      rcases Nat.eq_zero_or_pos m with h0 | h0
      · omega
      · obtain ⟨v, _, hv, _⟩ := h5 (m - 1) (by omega)
        rcases Nat.lt_or_ge (m - 1) x.size with h | h
        · omega
        · rw [Array.getElem?_eq_none h] at hv; simp at hv
    refine ⟨b, x, m, hm, hle, h1, h2, hms, fun i hi => ?_⟩
    have := h5 (off + i) (by omega)
    rw [← Nat.add_assoc] at this
    exact this
  · simp at hin
omit [Dr] in
theorem getLs_ok {S : Stab} {β : List Blk} {e : Env} {B : Nat} {f : Nat → Value} : (n : Nat) → (∀ i, i < n → VR S β (e.av (B + i)) (f i)) → VRs S β (getLs e B n) ((List.range n).map f)
  | 0, _ => by simp [getLs, VRs]
  | n + 1, hh => by
    simp only [getLs, List.range_succ, List.map_append, List.map_cons, List.map_nil]
    refine VRs.append (getLs_ok n fun i hi => hh i (by omega)) ?_
    simp only [VRs]
    exact ⟨_, _, rfl, hh n (by omega), rfl⟩
omit [Dr] in
theorem loadVar_row (hT : TOK P cx.T) {t : Nat} {ti : TI} (ht : cx.T t = some ti) {b off : Nat} {x : Array Value} (hr : Row w b x) (f : Nat → Value) (hf : ∀ i, i < ti.size → x[off + i]? = some (f i)) :
    (ti.agg = true → (loadVar t ⟨b, off, none⟩).run P w = .ok (.agg ((List.range ti.size).map f).toArray) w) ∧ (ti.agg = false → ti.size = 1 → (loadVar t ⟨b, off, none⟩).run P w = .ok (f 0) w) := by
  obtain ⟨ii, d, _, hii, hd, _, _, hsz, _, _, hag, _⟩ := (hT.get ht).ex
  refine ⟨fun hagg => ?_, fun hagg hone => ?_⟩
  · have := run_loadCells (P := P) w ⟨b, off, none⟩ ti.size f (fun j hj => by rw [addr_add, hr.cell]; exact hf j hj)
    simp [loadVar, run_isAgg hd, hag, hagg, run_sizeOf hii, hsz, this]
  · have h0 := hf 0 (by omega)
    rw [← hr.cell] at h0
    simp only [Nat.add_zero] at h0
    simp [loadVar, run_isAgg hd, hag, hagg, h0]
omit [Dr] in
theorem loadH_ne {T : TT} {t : Nat} {x : AV} {h : Hp} (hx : ∀ l off, x ≠ .hp l off) : loadH T t x h = match loadA T t x with | some v => .ok v h | none => .fail := by
  unfold loadH
  cases x <;> first | rfl | exact absurd rfl (hx _ _)
theorem load_op (hT : TOK P cx.T) (H : FR c N U e h a w S β γ lam ω) (hd : ∀ t, o.dst = some t → t < N) {t p : Nat} (ho : o.op = .load t (.tmp p)) (hx : p < 1000) (hr : runAct e o.dst (opLoad cx e o.dst t p) h ≠ .fail) :
    After P c N (UG U gid) (runAct e o.dst (opLoad cx e o.dst t p) h) o a w := by
  have hp := H.slots p hx
  unfold opLoad at hr ⊢
  cases hv : (e.get p).v with
  | loc B off =>
    rw [hv] at hr hp
    simp only at hr ⊢
    simp only [SlotR] at hp
    obtain ⟨b, hlam, hpv⟩ := hp
    cases ht : cx.T t with
    | none => rw [ht] at hr; exact absurd rfl hr
    | some ti =>
      rw [ht] at hr
      simp only at hr ⊢
      cases hin : inLb e B off ti.size with
      | false => rw [hin] at hr; exact absurd rfl hr
      | true =>
        rw [hin] at hr
        simp only [cond_true] at hr ⊢
        obtain ⟨b', x, m, hm, hle, hlam', hrow, hms, hcells⟩ := H.locals hin
        rw [hlam] at hlam'; cases hlam'
        let f : Nat → Value := fun i => (x[off + i]?).getD undef
        have hf : ∀ i, i < ti.size → x[off + i]? = some (f i) := fun i hi => by
          obtain ⟨v, _, hv', _⟩ := hcells i hi
          show _ = some ((x[off + i]?).getD undef)
          rw [hv']; rfl
        have hload := loadVar_row hT ht hrow f hf
        have hexec : ∀ v, (loadVar t ⟨b, off, none⟩).run P w = .ok v w → (execOp a.eval o).run P w = .ok (.value v) w := fun v hv' => by
          simp only [execOp, ho, Act.eval, hpv, Instr.loadAt, Instr.sureAddr, Sem.run_bind, Sem.run_pure, Result.andThen_ok, hv']
        cases hag : ti.agg with
        | true =>
          simp only [cond_true]
          refine After.val (hexec _ (hload.1 hag)) (Sat.up ⟨S, β, γ, lam, ω, H.setV hd ?_⟩)
          simp only [VR]
          refine ⟨_, rfl, getLs_ok ti.size fun i hi => ?_⟩
          obtain ⟨v, a', g1, g2, g3, _⟩ := hcells i hi
          have : f i = v := by show (x[off + i]?).getD undef = v; rw [g1]; rfl
          rw [this]
          simp only [Env.av, Ent.av, g2]
          exact g3
        | false =>
          rw [hag] at hr
          simp only [cond_false] at hr ⊢
          cases hone : decide (ti.size = 1) with
          | false => rw [hone] at hr; exact absurd rfl hr
          | true =>
            have hone' : ti.size = 1 := by simpa using hone
            simp only [cond_true]
            obtain ⟨v, a', g1, g2, g3, g4⟩ := hcells 0 (by omega)
            simp only [Nat.add_zero] at g1 g2 g4
            have hfv : f 0 = v := by show (x[off + 0]?).getD undef = v; rw [Nat.add_zero, g1]; rfl
            refine After.val (hexec _ (hfv ▸ hload.2 hag hone')) (Sat.up ⟨S, β, γ, lam, ω, H.set hd ?_ (fun g z hg hz => g4 g z hg hz) (fun g hg => H.used.1 _ g hg)⟩)
            rw [g2]
            exact g3
  | val av =>
    rw [hv] at hr hp
    simp only at hr ⊢
    simp only [SlotR] at hp
    have hexec : ∀ v, (Instr.loadAt t (a.tmps.getD p undef)).run P w = .ok v w → (execOp a.eval o).run P w = .ok (.value v) w := fun v hv' => by
      simp only [execOp, ho, Act.eval, Sem.run_bind, hv', Result.andThen_ok, Sem.run_pure]
    have hbyval : ∀ r, loadA cx.T t av = some r → After P c N (UG U gid) (.ok (e.upd o.dst (.ofV r)) h) o a w := fun r hr' => by
      obtain ⟨v, h1, h2⟩ := load_ok hT H.wf hr' hp
      exact After.val (hexec v h1) (Sat.up ⟨S, β, γ, lam, ω, H.setV hd h2⟩)
    cases hmem : memO cx.ann.hl o.dst with
    | false =>
      rw [hmem] at hr
      simp only [cond_false] at hr ⊢
      cases hl : loadA cx.T t av with
      | none => rw [hl] at hr; exact absurd rfl hr
      | some r => exact hbyval r hl
    | true =>
      rw [hmem] at hr
      simp only [cond_true] at hr ⊢
      simp only [runAct, bnd] at hr ⊢
      by_cases hav : ∃ l off, av = .hp l off
      · obtain ⟨l, off, rfl⟩ := hav
        unfold loadH at hr ⊢
        simp only at hr ⊢
        simp only [VR] at hp
        obtain ⟨⟨b, nb⟩, hb, hb0, hpv⟩ := hp
        cases ht : cx.T t with
        | none => rw [ht] at hr; exact absurd rfl hr
        | some ti =>
          cases hcs : h[l]? with
          | none => rw [ht, hcs] at hr; exact absurd rfl hr
          | some cs =>
            rw [ht, hcs] at hr
            simp only at hr ⊢
            obtain ⟨ii, d, _, hii, hdd, _, _, hsz, _, _, hagd, _⟩ := (hT.get ht).ex
            by_cases hne : cs = []
            · subst hne
              cases hag : ti.agg with
              | true =>
                rw [hag] at hr
                simp only [cond_true, List.length_nil] at hr ⊢
                by_cases hz : off + ti.size ≤ 0
                · rw [if_pos hz] at hr ⊢
                  have hz0 : ti.size = 0 := by omega
                  have hl0 : (loadVar t ⟨b, off, none⟩).run P w = .ok (.agg #[]) w := by
                    simp [loadVar, run_isAgg hdd, hagd, hag, run_sizeOf hii, hsz, hz0, loadCells, loadCellsFrom]
                  refine After.val (v := .agg #[]) (hexec _ (by rw [hpv]; simp only [Instr.loadAt, Instr.sureAddr, Sem.run_bind, Sem.run_pure, Result.andThen_ok, hl0])) (Sat.up ⟨S, β, γ, lam, ω, H.setV hd ?_⟩)
                  simp only [VR]
                  exact ⟨[], by simp, by simp [VRs]⟩
                · rw [if_neg hz] at hr; exact absurd rfl hr
              | false => rw [hag, List.getElem?_nil] at hr; exact absurd rfl hr
            · obtain ⟨y, k1, k2, k3, k4, k5⟩ := H.heap.cells hcs hne hb hb0
              rw [hb] at k1; cases k1
              have hcell : ∀ j v, (y.toList.take cs.length)[j]? = some v → w.cell? ⟨b, 0 + j, none⟩ = some v := fun j v hj => by
                rw [Nat.zero_add, k2.cell]
                rw [List.getElem?_take] at hj
                split at hj
                · simpa using hj
                · simp at hj
              have hvd := k4.drop off
              have hcd : ∀ j v, ((y.toList.take cs.length).drop off)[j]? = some v → w.cell? ⟨b, off + j, none⟩ = some v := fun j v hj => by
                rw [List.getElem?_drop] at hj
                have := hcell _ _ hj
                rwa [Nat.zero_add] at this
              cases hag : ti.agg with
              | true =>
                rw [hag] at hr
                simp only [cond_true] at hr ⊢
                by_cases hz : off + ti.size ≤ cs.length
                · rw [if_pos hz] at hr ⊢
                  obtain ⟨v, h1, h2⟩ := loadVar_ok hT ht hvd hcd (r := .agg ((cs.drop off).take ti.size)) (by rw [hag]; simp only [cond_true]; rw [if_pos (by simp; omega)])
                  exact After.val (hexec v (by rw [hpv]; simp only [Instr.loadAt, Instr.sureAddr, Sem.run_bind, Sem.run_pure, Result.andThen_ok, h1])) (Sat.up ⟨S, β, γ, lam, ω, H.setV hd h2⟩)
                · rw [if_neg hz] at hr; exact absurd rfl hr
              | false =>
                rw [hag] at hr
                simp only [cond_false] at hr ⊢
                cases hg : cs[off]? with
                | none => rw [hg] at hr; exact absurd rfl hr
                | some r =>
                  simp only
                  obtain ⟨v, h1, h2⟩ := loadVar_ok hT ht hvd hcd (r := r) (by rw [hag]; simp only [cond_false, List.head?_drop]; exact hg)
                  exact After.val (hexec v (by rw [hpv]; simp only [Instr.loadAt, Instr.sureAddr, Sem.run_bind, Sem.run_pure, Result.andThen_ok, h1])) (Sat.up ⟨S, β, γ, lam, ω, H.setV hd h2⟩)
      · rw [loadH_ne (fun l off hh => hav ⟨l, off, hh⟩)] at hr ⊢
        cases hl : loadA cx.T t av with
        | none => rw [hl] at hr; exact absurd rfl hr
        | some r => exact hbyval r hl
end
end Go.Av

/- One operation: stores. Conditions: the table of types is the program's; the calls are right. -/
namespace Go.Av
variable [Dr]
section
variable {P : Program} {cx : Cx} {c : Entry} {N : Nat} {U : Nat → Prop} {e : Env} {h : Hp} {a : Act} {w : World} {S : Stab} {β : List Blk} {γ : Nat → Value} {lam : Nat → Option Nat} {ω : Nat → Owner} {o : Oper} {gid : Nat}
omit [Dr] in
theorem okCell_ok {x : AV} {v : Value} (h : okCell x = true) (hv : VR S β x v) : v.cells = #[v] ∧ v.oneCell' = true := by
  have h1 : sizeA x = some 1 := by cases x <;> simp_all [okCell, sizeA]
  have h2 : okEl 1 x = true := by
    unfold okEl
    rw [h1]
    cases x <;> simp_all [okCell, acells]
  obtain ⟨g1, g2, g3⟩ := okEl_ok h2 hv
  have hc : v.cells = #[v] := by
    cases x <;> simp [okCell] at h <;> simp only [VR] at hv
    case bool => subst hv; rfl
    case int => subst hv; rfl
    case nilp => subst hv; rfl
    case nilf => subst hv; rfl
    case nili => subst hv; rfl
    case hn => subst hv; rfl
    case str => obtain ⟨_, rfl, _⟩ := hv; rfl
    case sl => obtain ⟨_, _, rfl, _⟩ := hv; rfl
    case ip => obtain ⟨_, _, _, rfl, _⟩ := hv; rfl
    case hp => obtain ⟨_, _, _, rfl⟩ := hv; rfl
    case mp => obtain ⟨_, _, _, rfl⟩ := hv; rfl
    case nilm => subst hv; rfl
    case hs => rcases hv with ⟨_, _, _, _, rfl, _⟩ | ⟨_, _, rfl⟩ <;> rfl
    case fn => obtain ⟨_, _, rfl, _⟩ := hv; rfl
    case iface => obtain ⟨_, rfl, _⟩ := hv; rfl
  exact ⟨hc, g3 v (by rw [hc]; simp)⟩
omit [Dr] in
theorem storeAt_run (hT : TOK P cx.T) {t : Nat} {ti : TI} (ht : cx.T t = some ti) {b off : Nat} {x : Array Value} {v : Value} (hr : Row w b x) (hs : v.cells.size = ti.size) (hone : ∀ y ∈ v.cells.toList, y.oneCell' = true) (hle : off + ti.size ≤ x.size) :
    (Instr.storeAt t (.pointer (some ⟨b, off, none⟩)) v).run P w = .ok () (w.setRow b (x.toList.take off ++ v.cells.toList ++ x.toList.drop (off + v.cells.toList.length)).toArray) := by
  obtain ⟨ii, d, _, hii, hd, _, _, hsz, _⟩ := (hT.get ht).ex
  obtain ⟨te, hrow⟩ := hr
  have hst := run_storeCells_at P b off te v.cells.toList 0 x w hrow (by simp [hs]; omega) hone
  simp only [Nat.add_zero] at hst
  have hne : ¬ (v.cells.size ≠ ii.size) := by rw [hs, hsz]; simp
  simp only [Instr.storeAt, Instr.sureAddr, Sem.run_bind, Sem.run_pure, Result.andThen_ok, storeVar, run_sizeOf hii, hne, if_false, hst]
omit [Dr] in
theorem cellsN_ok {n : Nat} {x : AV} {cs : List AV} {v : Value} (h : cellsN n x = some cs) (hv : VR S β x v) : cs = acells x ∧ v.cells.size = n ∧ VRs S β cs v.cells.toList ∧ ∀ y ∈ v.cells.toList, y.oneCell' = true := by
  unfold cellsN at h
  cases hk : okEl n x with
  | false => rw [hk] at h; simp at h
  | true =>
    rw [hk] at h
    simp only [cond_true, Option.some.injEq] at h
    subst h
    obtain ⟨h1, h2, h3⟩ := okEl_ok hk hv
    exact ⟨rfl, h1, h2, h3⟩
omit [Dr] in
theorem isHn_inv {x : AV} (h : isHn x = true) : x = .hn := by cases x <;> simp_all [isHn]
theorem store_op (hT : TOK P cx.T) (H : FR c N U e h a w S β γ lam ω) (_hN : ∀ t, t < 1000 → True) (hU : ∀ g, gid ≤ g → g < gid + 1000 → ¬ U g) {t : Nat} {x y : Operand} (ho : o.op = .store t x y) (hx : ∀ t, x = .tmp t → t < 1000) (hy : ∀ t, y = .tmp t → t < 1000)
    (hpN : ∀ p, x = .tmp p → isS (findK cx.ann.kinds p .L) = true → p < N) (hr : runOp cx e gid o h ≠ .fail) : After P c N (UG U gid) (runOp cx e gid o h) o a w := by
  unfold runOp opD at hr ⊢
  rw [ho] at hr ⊢
  cases x <;> simp only at hr ⊢ <;> (try exact absurd rfl hr)
  rename_i p
  cases hdst : o.dst with
  | some d => rw [hdst] at hr; exact absurd rfl hr
  | none =>
  rw [hdst] at hr
  simp only at hr ⊢
  cases hlw : memN cx.ann.lw p && !(isLocE (e.get p)) with
  | true => rw [hlw] at hr; exact absurd rfl hr
  | false =>
  rw [hlw] at hr
  simp only [cond_false] at hr ⊢
  have hp := H.slots p (hx p rfl)
  have hyv := opnd_ok H y hy
  have hexec : ∀ w', (Instr.storeAt t (a.tmps.getD p undef) (a.eval y)).run P w = .ok () w' → (execOp a.eval o).run P w = .ok .skip w' := fun w' hh => by
    have he : a.eval (.tmp p) = a.tmps.getD p undef := rfl
    simp only [execOp, ho, he, Sem.run_bind, hh, Result.andThen_ok, Sem.run_pure]
  unfold opStore at hr ⊢
  cases hv : (e.get p).v with
  | loc B off =>
    rw [hv] at hr hp
    simp only at hr ⊢
    simp only [SlotR] at hp
    obtain ⟨b, hlam, hpv⟩ := hp
    cases ht : cx.T t with
    | none => rw [ht] at hr; exact absurd rfl hr
    | some ti =>
      rw [ht] at hr
      simp only at hr ⊢
      cases hin : inLb e B off ti.size with
      | false => rw [hin] at hr; exact absurd rfl hr
      | true =>
        rw [hin] at hr
        simp only [cond_true] at hr ⊢
        obtain ⟨b', z, m, hm, hle, hlam', hrow, hms, hcells⟩ := H.locals hin
        rw [hlam] at hlam'; cases hlam'
        have hst : ∀ v, a.eval y = v → v.cells.size = ti.size → (∀ q ∈ v.cells.toList, q.oneCell' = true) →
            (execOp a.eval o).run P w = .ok .skip (w.setRow b (z.toList.take off ++ v.cells.toList ++ z.toList.drop (off + v.cells.toList.length)).toArray) := fun v hv' h1 h2 =>
          hexec _ (by rw [hpv, hv']; exact storeAt_run hT ht hrow h1 h2 (by omega))
        cases hS : isS (findK cx.ann.kinds p .L) with
        | true =>
          rw [hS] at hr
          simp only [cond_true] at hr ⊢
          cases hcond : wholeB e B off p ti.size with
          | false => rw [hcond] at hr; exact absurd rfl hr
          | true =>
            rw [hcond] at hr
            simp only [cond_true] at hr ⊢
            unfold wholeB at hcond
            rw [hm] at hcond
            simp only [Bool.and_eq_true] at hcond
            obtain ⟨⟨h1, h2⟩, h3⟩ := hcond
            have h1 := Nat.eq_of_beq_eq_true h1
            have h3 := Nat.eq_of_beq_eq_true h3
            subst h1 h3
            unfold cellsM at hr ⊢
            cases hcs : cellsN ti.size (opnd e y) with
            | none => rw [hcs] at hr; exact absurd rfl hr
            | some cs =>
              obtain ⟨k1, k2, k3, k4⟩ := cellsN_ok hcs hyv
              obtain ⟨S', ω', _, F⟩ := H.storeS (u := ⟨.val (.tup []), none⟩) (hpN p rfl hS) hm (by simpa using k2) hlam hrow k3 hpv
              refine After.skip hdst (hst _ rfl k2 k4) ?_
              have F2 := F.wider (V := UG U gid) (fun _ h => .inl h)
              have hacs : acells (.agg cs) = cs := rfl
              simp only [List.take_zero, List.nil_append, Nat.zero_add] at F2 ⊢
              exact ⟨_, _, _, _, _, F2⟩
        | false =>
          rw [hS] at hr
          simp only [cond_false] at hr ⊢
          cases hag : ti.agg with
          | true =>
            rw [hag] at hr
            simp only [cond_true] at hr ⊢
            unfold cellsNil at hr ⊢
            cases hcs : cellsN ti.size (opnd e y) with
            | none => rw [hcs] at hr; exact absurd rfl hr
            | some cs =>
              rw [hcs] at hr
              simp only at hr ⊢
              cases hnil : nilsAt cs (findN cx.ann.nils p) ti.size with
              | false => rw [hnil] at hr; exact absurd rfl hr
              | true =>
                obtain ⟨k1, k2, k3, k4⟩ := cellsN_ok hcs hyv
                have hnb : ∀ i ∈ findN cx.ann.nils p, i < ti.size ∧ nth cs i = .hn := fun i hi => by
                  unfold nilsAt at hnil
                  rw [List.all_eq_true] at hnil
                  have := hnil i hi
                  rw [Bool.and_eq_true] at this
                  exact ⟨by simpa using this.1, isHn_inv this.2⟩
                have hm1000 : m < 1000 := (H.lblk B m hm).2.2.1
                have hcsl : cs.length = ti.size := by rw [← k3.length]; simpa using k2
                have F := H.storeL (u := ⟨.val (.tup []), none⟩) (L := lsOf (B + off) cs (findN cx.ann.nils p) gid ti.size) (A := gsOf (findN cx.ann.nils p) gid) (vs := (a.eval y).cells.toList) (ent := cellEnt cs (findN cx.ann.nils p) gid)
                  hU (nilGroups_gsOf (fun i hi => (hnb i hi).1) (by omega)) hm hle (by simpa using k2) hlam hrow (fun t' => lookE_lsOf _ _ _ _ _ _ _) (fun i hi => by
                    obtain ⟨v, v1, v2⟩ := k3.allR i (by omega)
                    unfold cellEnt
                    cases hmem : memN (findN cx.ann.nils p) i with
                    | true =>
                      have hn := (hnb i ((memN_iff _ _).1 hmem)).2
                      rw [hn] at v2
                      simp only [VR] at v2
                      subst v2
                      refine ⟨_, .sl [], v1, rfl, ?_, fun g z hg _ => ?_, fun g hg => ?_⟩
                      · simp only [VR]; exact ⟨none, 0, rfl, Nat.le_refl _, fun _ => rfl, fun q hq => by cases hq⟩
                      · simp only [cond_true, Option.some.injEq] at hg
                        unfold γN
                        rw [if_pos (by omega)]
                      · simp only [cond_true, Option.some.injEq] at hg
                        exact .inr (by omega)
                    | false => exact ⟨v, nth cs i, v1, rfl, v2, fun g z hg _ => by simp at hg, fun g hg => by simp at hg⟩)
                refine After.skip hdst (hst _ rfl k2 k4) ?_
                exact ⟨_, _, _, _, _, F⟩
          | false =>
            rw [hag] at hr
            simp only [cond_false] at hr ⊢
            cases hone : decide (ti.size = 1) with
            | false => rw [hone] at hr; exact absurd rfl hr
            | true =>
              have hone' : ti.size = 1 := by simpa using hone
              rw [hone] at hr
              simp only [cond_true] at hr ⊢
              have hput : ∀ (v : Value) (u : Ent) (en : Ent) (A : List (Nat × Option Nat)) (av : AV), a.eval y = v → v.cells = #[v] → v.oneCell' = true → NilGroups A gid → en.v = .val av → VR S β av v →
                  (∀ g z, en.g = some g → aliveG (A ++ e.al) g = some z → v = γN γ gid g) → (∀ g, en.g = some g → U g ∨ (gid ≤ g ∧ g < gid + 1000)) →
                  After P c N (UG U gid) (.ok (e.upd none { ent := u, ls := [(B + off, en)], add := A }) h) o a w := by
                intro v u en A av hav hc1 hc2 hA hen hr1 hg1 hg2
                have F := H.storeL (u := u) (L := [(B + off, en)]) (A := A) (n := 1) (m := m) (off := off) (vs := v.cells.toList) (ent := fun _ => en) hU hA hm (by omega) (by rw [hc1]; rfl) hlam hrow (fun t' => by
                    simp only [List.cons_append, List.nil_append, lookE_cons]
                    by_cases ht' : B + off = t'
                    · rw [if_pos ht', if_pos (by omega)]
                    · rw [if_neg ht', if_neg (by omega)]; rfl) (fun i hi => by
                    have : i = 0 := by omega
                    subst this
                    exact ⟨v, av, by rw [hc1]; rfl, hen, hr1, hg1, hg2⟩)
                refine After.skip hdst (hst v hav (by rw [hc1, hone']; rfl) (by rw [hc1]; simpa using hc2)) ?_
                exact ⟨_, _, _, _, _, F⟩
              rw [hdst] at *
              cases y with
              | tmp s =>
                simp only at hr ⊢
                have hs := H.slots s (hy s rfl)
                cases hsv : (e.get s).v with
                | loc _ _ => rw [hsv] at hr; exact absurd rfl hr
                | val av =>
                  rw [hsv] at hr hs
                  simp only at hr ⊢
                  unfold cell1M at hr ⊢
                  cases hok : okCell av with
                  | false => rw [hok] at hr; exact absurd rfl hr
                  | true =>
                    obtain ⟨j1, j2⟩ := okCell_ok hok hs
                    refine hput _ _ (e.get s) [] av rfl j1 j2 (nilGroups_nil gid) hsv hs (fun g z hg hz => ?_) (fun g hg => .inl (H.used.1 s g hg))
                    unfold γN
                    rw [if_neg (fun hr => hU g hr.1 hr.2 (H.used.1 s g hg))]
                    exact H.grps s g z (hy s rfl) hg hz
              | const v =>
                simp only at hr ⊢
                cases hn : isNilConst (.const v) with
                | true =>
                  have hv' : v = .slice none 0 0 := by
                    unfold isNilConst at hn
                    split at hn
                    · rename_i hq; simpa using hq
                    · simp at hn
                  subst hv'
                  refine hput _ _ _ _ (.sl []) rfl rfl rfl (nilGroups_one gid) rfl ?_ (fun g z hg hz => ?_) (fun g hg => ?_)
                  · simp only [VR]; exact ⟨none, 0, rfl, Nat.le_refl _, fun _ => rfl, fun q hq => by cases hq⟩
                  · simp only [Option.some.injEq] at hg
                    unfold γN
                    rw [if_pos (by omega)]
                    rfl
                  · simp only [Option.some.injEq] at hg
                    exact .inr (by omega)
                | false =>
                  rw [hn] at hr
                  simp only [cond_false] at hr ⊢
                  unfold cell1M at hr ⊢
                  cases hok : okCell (opnd e (.const v)) with
                  | false => rw [hok] at hr; exact absurd rfl hr
                  | true =>
                    obtain ⟨j1, j2⟩ := okCell_ok hok hyv
                    exact hput _ _ _ [] _ rfl j1 j2 (nilGroups_nil gid) rfl hyv (fun g z hg _ => by cases hg) (fun g hg => by cases hg)
              | global g => simp only [isNilConst, cond_false, cell1M, opnd, okCell] at hr; exact absurd rfl hr
              | func f =>
                simp only [isNilConst, cond_false] at hr ⊢
                unfold cell1M at hr ⊢
                cases hok : okCell (opnd e (.func f)) with
                | false => rw [hok] at hr; exact absurd rfl hr
                | true =>
                  obtain ⟨j1, j2⟩ := okCell_ok hok hyv
                  exact hput _ _ _ [] _ rfl j1 j2 (nilGroups_nil gid) rfl hyv (fun g z hg _ => by cases hg) (fun g hg => by cases hg)
  | val av =>
    rw [hv] at hr hp
    simp only at hr ⊢
    simp only [SlotR] at hp
    simp only [runAct, bnd] at hr ⊢
    cases hav : av with
    | hp l off =>
      subst hav
      simp only [VR] at hp
      obtain ⟨⟨b, nb⟩, hb, hb0, hpv⟩ := hp
      unfold storeH at hr ⊢
      cases ht : cx.T t with
      | none => rw [ht] at hr; exact absurd rfl hr
      | some ti =>
        rw [ht] at hr
        simp only at hr ⊢
        cases hcs : h[l]? with
        | none => rw [hcs] at hr; exact absurd rfl hr
        | some cs =>
          rw [hcs] at hr
          simp only at hr ⊢
          cases hcond : (okEl ti.size (opnd e y) && decide (off + ti.size ≤ cs.length) && decide (0 < ti.size)) with
          | false => rw [hcond] at hr; exact absurd rfl hr
          | true =>
            rw [hcond] at hr
            simp only [cond_true] at hr ⊢
            simp only [Bool.and_eq_true, decide_eq_true_eq] at hcond
            obtain ⟨⟨h1, h2⟩, h3⟩ := hcond
            obtain ⟨k2, k3, k4⟩ := okEl_ok h1 hyv
            have hne : cs ≠ [] := by rintro rfl; simp at h2; omega
            obtain ⟨z, j1, j2, j3, j4, j5⟩ := H.heap.cells hcs hne hb hb0
            rw [hb] at j1; cases j1
            have hzs : cs.length ≤ z.size := by
              have := j4.length
              simp at this
              omega
            have hacl : (acells (opnd e y)).length = ti.size := by rw [← k3.length]; simpa using k2
            have F := H.turnH (cs' := setCells cs off (acells (opnd e y))) (y := (z.toList.take off ++ (a.eval y).cells.toList ++ z.toList.drop (off + (a.eval y).cells.toList.length)).toArray) hcs hne ⟨_, hb⟩ j2 (by simp [k2]; omega) (by
              rw [setCells_length _ _ _ (by omega)]
              have hsp : VRs S β (setCells cs off (acells (opnd e y))) (((z.toList.take cs.length).take off ++ (a.eval y).cells.toList ++ (z.toList.take cs.length).drop (off + (a.eval y).cells.toList.length))) := by
                unfold setCells
                have hl1 : (a.eval y).cells.toList.length = (acells (opnd e y)).length := k3.length
                rw [hl1]
                exact ((j4.take off).append k3).append (j4.drop _)
              have heq : (z.toList.take off ++ (a.eval y).cells.toList ++ z.toList.drop (off + (a.eval y).cells.toList.length)).take cs.length =
                  (z.toList.take cs.length).take off ++ (a.eval y).cells.toList ++ (z.toList.take cs.length).drop (off + (a.eval y).cells.toList.length) := by
                rw [List.take_append, List.take_append]
                have hl : (a.eval y).cells.toList.length = ti.size := by simpa using k2
                have e1 : (z.toList.take off).length = off := by simp; omega
                rw [List.take_take, List.take_take]
                have e2 : min cs.length off = off := by omega
                have e3 : min off cs.length = off := by omega
                rw [e2, e3, e1]
                have e4 : (a.eval y).cells.toList.take (cs.length - off) = (a.eval y).cells.toList := List.take_of_length_le (by omega)
                rw [e4]
                congr 1
                rw [List.take_drop, List.length_append, e1, hl]
                congr 2
                omega
              show VRs S β _ (List.take _ _)
              rw [show (z.toList.take off ++ (a.eval y).cells.toList ++ z.toList.drop (off + (a.eval y).cells.toList.length)).toArray.toList = (z.toList.take off ++ (a.eval y).cells.toList ++ z.toList.drop (off + (a.eval y).cells.toList.length)) from rfl, heq]
              exact hsp) (fun t ht => ht.setCells.resolve_right (nob_okEl h1 t))
            refine After.skip hdst (hexec _ (by rw [hpv]; exact storeAt_run hT ht j2 k2 k4 (by omega))) ?_
            have hupd : ∀ E : Env, E.upd none (.ofV (.tup [])) = E := fun E => rfl
            rw [hupd]
            exact Sat.up ⟨_, _, _, _, _, F⟩
    | _ => subst hav; unfold storeH at hr; exact absurd rfl hr
end
end Go.Av

/- One operation: new memory, addresses, calls. Conditions: the table of types is the program's; the calls are right. -/
namespace Go.Av
variable [Dr]
section
variable {P : Program} {cx : Cx} {c : Entry} {N : Nat} {U : Nat → Prop} {e : Env} {h : Hp} {a : Act} {w : World} {S : Stab} {β : List Blk} {γ : Nat → Value} {lam : Nat → Option Nat} {ω : Nat → Owner} {o : Oper} {gid : Nat}
theorem boxF (H : FR c N U e h a w S β γ lam ω) (hd : ∀ t, o.dst = some t → t < N) {cs : List AV} {x : Array Value} {vs : List Value} {t : TypeId} (hvs : VRs S β cs vs) (hx : ∀ (j : Nat) (v : Value), vs[j]? = some v → x[j]? = some v)
    (hrun : (execOp a.eval o).run P w = .ok (.value (.pointer (some ⟨w.heap.size, 0, none⟩))) (w.alloc (.cells x t))) : After P c N (UG U gid) (.ok (e.upd o.dst (.ofV (.ip cs))) h) o a w := by
  have H2 := H.allocS x t x.size
  refine After.val hrun (Sat.up ⟨_, β, γ, lam, ω, H2.setV hd ?_⟩)
  simp only [VR]
  refine ⟨w.heap.size, 0, vs, rfl, hvs.mono (fun k o v hv => ?_) (Ext.refl β), fun j v hj => ?_⟩
  · unfold Stab.withRowTo
    split
    · rename_i hk; subst hk; rw [H.wf.none (Nat.le_refl _)] at hv; simp at hv
    · exact hv
  · have := hx j v hj
    unfold Stab.withRowTo
    rw [if_pos rfl, Nat.zero_add, if_pos]
    · exact this
    · rcases Nat.lt_or_ge j x.size with h | h
      · exact h
      · rw [Array.getElem?_eq_none h] at this; simp at this
theorem newH_op (H : FR c N U e h a w S β γ lam ω) (hd : ∀ t, o.dst = some t → t < N) {cs : List AV} {x : Array Value} {vs : List Value} {t : TypeId} (hvs : VRs S β cs vs) (hx : ∀ (j : Nat) (v : Value), vs[j]? = some v → x[j]? = some v)
    (hrun : (execOp a.eval o).run P w = .ok (.value (.pointer (some ⟨w.heap.size, 0, none⟩))) (w.alloc (.cells x t))) (hr : runAct e o.dst (.dyn (newH cs) .ofV) h ≠ .fail) : After P c N (UG U gid) (runAct e o.dst (.dyn (newH cs) .ofV) h) o a w := by
  have hcs : cs ≠ [] := by
    rintro rfl
    exact hr rfl
  have hemp : (cs.isEmpty || cs.any isNilb) = false := by
    cases hq : (cs.isEmpty || cs.any isNilb) with
    | false => rfl
    | true =>
      exfalso
      apply hr
      simp only [runAct, bnd, newH, hq, cond_true]
  have hnb := nob_any (Bool.or_eq_false_iff.1 hemp).2
  have htake : VRs S β cs (x.toList.take cs.length) := by
    refine .of_get ?_ fun i y v hy hv => ?_
    · have hl := hvs.length
      rw [List.length_take]
      have : cs.length ≤ x.size := by
        rcases Nat.eq_zero_or_pos cs.length with h0 | h0
        · omega
        · obtain ⟨v, hv, _⟩ := hvs.allR (cs.length - 1) (by omega)
          have := hx _ _ hv
          rcases Nat.lt_or_ge (cs.length - 1) x.size with h | h
          · omega
          · rw [Array.getElem?_eq_none h] at this; simp at this
      simp; omega
    · obtain ⟨u, hu, hur⟩ := hvs.get hy
      have := hx i u hu
      rw [List.getElem?_take] at hv
      split at hv
      · rw [Array.getElem?_toList, this] at hv
        cases hv; exact hur
      · simp at hv
  obtain ⟨ω', F, hnew, _⟩ := H.newH x t htake (fun t ht => absurd ht (hnb t))
  have hx0 : x.size ≠ 0 := by
    have h1 := htake.length
    have h2 := List.length_pos_iff.2 hcs
    simp only [List.length_take, Array.length_toList] at h1
    omega
  simp only [runAct, bnd, newH, hemp, cond_false, M.pure]
  refine After.val hrun (Sat.up ⟨_, _, γ, lam, ω', F.setV hd ?_⟩)
  simp only [VR]
  exact ⟨_, hnew, hx0, rfl⟩
theorem newB_op (H : FR c N U e h a w S β γ lam ω) (hd : ∀ t, o.dst = some t → t < N) {cs : List AV} {x : Array Value} {t : TypeId} (hvs : VRs S β cs x.toList)
    (hrun : (execOp a.eval o).run P w = .ok (.value (.pointer (some ⟨w.heap.size, 0, none⟩))) (w.alloc (.cells x t))) (hr : runAct e o.dst (.dyn (newB t cs) .ofV) h ≠ .fail) : After P c N (UG U gid) (runAct e o.dst (.dyn (newB t cs) .ofV) h) o a w := by
  simp only [runAct, bnd, newB, M.pure] at hr ⊢
  split at hr
  · rename_i h1 hm
    split at hm
    · rename_i r
      cases hq : r.any isNilb with
      | true => rw [hq] at hm; cases hm
      | false =>
        rw [hq] at hm
        simp only [cond_false, R.ok.injEq] at hm
        obtain ⟨rfl, rfl⟩ := hm
        have htake : VRs S β (.nilb t :: r) (x.toList.take (AV.nilb t :: r).length) := by
          have hl := hvs.length
          rw [show (AV.nilb t :: r).length = x.toList.length by rw [hl]; rfl, List.take_length]
          simp only [VRs, VR] at hvs ⊢
          exact hvs
        obtain ⟨ω', F, hnew, _⟩ := H.newH x t htake (fun t' ht' => by
          rcases ht'.cons with h | h
          · simpa [tagOf] using h.symm
          · exact absurd h (nob_any hq t'))
        have hx0 : x.size ≠ 0 := by
          have hl := hvs.length
          simp at hl
          omega
        refine After.val hrun (Sat.up ⟨_, _, γ, lam, ω', F.setV hd ?_⟩)
        simp only [VR]
        exact ⟨_, hnew, hx0, rfl⟩
    · cases hm
  · rename_i hm
    split at hm
    · rename_i r
      revert hm
      cases r.any isNilb <;> simp
    · cases hm
  · exact absurd rfl hr
omit [Dr] in
theorem alloc_run (hT : TOK P cx.T) {t : Nat} {ti : TI} (ht : cx.T t = some ti) : ∃ z : Value, (Instr.alloc t true (.tuple #[])).run P w = .ok (.pointer (some ⟨w.heap.size, 0, none⟩)) (w.alloc (.cells z.cells t)) ∧ z.cells.size = ti.size ∧
    (∀ told, VRs S β (zerosOf told ti) z.cells.toList) := by
  obtain ⟨i, d, z, hi, hd, hz, hzs, hsz, _⟩ := (hT.get ht).ex
  refine ⟨z, ?_, by omega, fun told => zerosOf_ok hT ht told hi hz⟩
  simp [Instr.alloc, zeroValue, typeInfo, hi, hz, newVar, newRow]
theorem alloc_op (hT : TOK P cx.T) (H : FR c N U e h a w S β γ lam ω) (hd : ∀ t, o.dst = some t → t < N) (hU : ∀ g, gid ≤ g → g < gid + 1000 → ¬ U g) {t : Nat} (ho : o.op = .alloc t) (hr : runOp cx e gid o h ≠ .fail) :
    After P c N (UG U gid) (runOp cx e gid o h) o a w := by
  unfold runOp opD at hr ⊢
  rw [ho] at hr ⊢
  simp only at hr ⊢
  cases hdst : o.dst with
  | none => rw [hdst] at hr; exact absurd rfl hr
  | some s =>
    rw [hdst] at hr
    simp only at hr ⊢
    unfold opAlloc at hr ⊢
    cases ht : cx.T t with
    | none => rw [ht] at hr; exact absurd rfl hr
    | some ti =>
      rw [ht] at hr
      simp only at hr ⊢
      obtain ⟨z, hrun, hzs, hz⟩ := alloc_run (w := w) (S := S) (β := β) hT ht
      have hexec : (execOp a.eval o).run P w = .ok (.value (.pointer (some ⟨w.heap.size, 0, none⟩))) (w.alloc (.cells z.cells t)) := by
        simp only [execOp, ho, Sem.run_bind, hrun, Result.andThen_ok, Sem.run_pure]
      have hL : ∀ A : Act1, A = (bif decide (ti.size < 1000) && locFree e.sl (lbase s) && nilsAt (zerosOf true ti) (findN cx.ann.nils s) ti.size then
          .stat { ent := ⟨.loc (lbase s) 0, none⟩, ls := lsOf (lbase s) (zerosOf (memN cx.ann.hb s) ti) (findN cx.ann.nils s) gid ti.size, add := gsOf (findN cx.ann.nils s) gid, lb := some (lbase s, ti.size) } else .bad) →
          runAct e (some s) A h ≠ .fail → After P c N (UG U gid) (runAct e (some s) A h) o a w := by
        rintro A rfl hr
        cases hcond : (decide (ti.size < 1000) && locFree e.sl (lbase s) && nilsAt (zerosOf true ti) (findN cx.ann.nils s) ti.size) with
        | false => rw [hcond] at hr; exact absurd rfl hr
        | true =>
          simp only [cond_true]
          simp only [Bool.and_eq_true, decide_eq_true_eq] at hcond
          obtain ⟨⟨h1, h2⟩, h3⟩ := hcond
          obtain ⟨lam', ω', F⟩ := H.allocL (s := s) (n := ti.size) (gid := gid) (x := z.cells) (t := t) (cs := zerosOf (memN cx.ann.hb s) ti) (offs := findN cx.ann.nils s) (hd s hdst) hU h1 (fun i hi => by
              have hzz := hz (memN cx.ann.hb s)
              have hl := hzz.length
              obtain ⟨v, v1, v2⟩ := hzz.allR i (by rw [← hl]; simpa [hzs] using hi)
              exact ⟨v, by simpa using v1, v2⟩) (fun i hi => by
              unfold nilsAt at h3
              rw [List.all_eq_true] at h3
              have := h3 i hi
              rw [Bool.and_eq_true] at this
              have hn := isHn_inv this.2
              have hlt : i < ti.size := by simpa using this.1
              have hzz := hz true
              have hl := hzz.length
              obtain ⟨v, v1, v2⟩ := hzz.allR i (by rw [← hl]; simpa [hzs] using hlt)
              rw [hn] at v2
              simp only [VR] at v2
              subst v2
              exact ⟨hlt, by simpa using v1⟩) h2
          refine After.val hexec ?_
          rw [hdst]
          exact ⟨_, _, _, _, _, F⟩
      cases hk : findK cx.ann.kinds s .L with
      | F =>
        simp only
        rw [← hdst]
        exact boxF H hd (hz false) (fun j v hj => by simpa using hj) hexec
      | H =>
        simp only
        rw [← hdst]
        exact newH_op H hd (hz _) (fun j v hj => by simpa using hj) hexec (by rw [hdst]; simpa only [hk] using hr)
      | B =>
        simp only
        rw [hk] at hr
        rw [← hdst] at hr ⊢
        exact newB_op H hd (hz _) hexec hr
      | L => rw [hk] at hr; exact hL _ rfl hr
      | S => rw [hk] at hr; exact hL _ rfl hr
theorem box_op (H : FR c N U e h a w S β γ lam ω) (hd : ∀ t, o.dst = some t → t < N) (hU : ∀ g, gid ≤ g → g < gid + 1000 → ¬ U g) {t : Nat} {x : Operand} (ho : o.op = .box t x) (hx : ∀ t, x = .tmp t → t < 1000) (hr : runOp cx e gid o h ≠ .fail) :
    After P c N (UG U gid) (runOp cx e gid o h) o a w := by
  unfold runOp opD at hr ⊢
  rw [ho] at hr ⊢
  simp only at hr ⊢
  cases hdst : o.dst with
  | none => rw [hdst] at hr; exact absurd rfl hr
  | some s =>
    rw [hdst] at hr
    simp only at hr ⊢
    have hv := opnd_ok H x hx
    have hexec : (execOp a.eval o).run P w = .ok (.value (.pointer (some ⟨w.heap.size, 0, none⟩))) (w.alloc (.cells (a.eval x).cells t)) := by
      simp [execOp, ho, Instr.box, newVar, newRow]
    obtain ⟨vs, hvs, hvx⟩ := hv.acells
    have hL : ∀ A : Act1, A = (match cx.T t with
        | none => .bad
        | some ti => bif decide (ti.size < 1000) && locFree e.sl (lbase s) then
            .dyn (cellsM ti.size (opnd e x)) fun v => { ent := ⟨.loc (lbase s) 0, none⟩, ls := lsOf (lbase s) (acells v) [] 0 ti.size, lb := some (lbase s, ti.size) }
          else .bad) → runAct e (some s) A h ≠ .fail → After P c N (UG U gid) (runAct e (some s) A h) o a w := by
      rintro A rfl hr
      cases ht : cx.T t with
      | none => rw [ht] at hr; exact absurd rfl hr
      | some ti =>
        rw [ht] at hr
        simp only at hr ⊢
        cases hcond : (decide (ti.size < 1000) && locFree e.sl (lbase s)) with
        | false => rw [hcond] at hr; exact absurd rfl hr
        | true =>
          rw [hcond] at hr
          simp only [cond_true] at hr ⊢
          simp only [Bool.and_eq_true, decide_eq_true_eq] at hcond
          obtain ⟨h1, h2⟩ := hcond
          unfold cellsM at hr ⊢
          cases hcs : cellsN ti.size (opnd e x) with
          | none => rw [hcs] at hr; exact absurd rfl hr
          | some cs =>
            obtain ⟨_, k2, k3, _⟩ := cellsN_ok hcs hv
            obtain ⟨lam', ω', F⟩ := H.allocL (s := s) (n := ti.size) (gid := gid) (x := (a.eval x).cells) (t := t) (cs := cs) (offs := []) (hd s hdst) hU h1 (fun i hi => by
              obtain ⟨v, v1, v2⟩ := k3.allR i (by rw [← k3.length]; simpa [k2] using hi)
              exact ⟨v, by simpa using v1, v2⟩) (fun i hi => by simp at hi) h2
            refine After.val hexec ?_
            rw [hdst]
            have hls : lsOf (lbase s) cs [] 0 ti.size = lsOf (lbase s) cs [] gid ti.size := by simp [lsOf, memN]
            have hac : acells (.agg cs) = cs := rfl
            simp only [hac, hls]
            exact ⟨_, _, _, _, _, F⟩
    unfold opBox at hr ⊢
    cases hk : findK cx.ann.kinds s .F with
    | F =>
      simp only
      rw [← hdst]
      exact boxF H hd hvs (fun j v hj => by simpa using hvx j v hj) hexec
    | H =>
      simp only
      rw [← hdst]
      exact newH_op H hd hvs (fun j v hj => by simpa using hvx j v hj) hexec (by rw [hdst]; simpa only [hk] using hr)
    | B => rw [hk] at hr; exact absurd rfl hr
    | L => rw [hk] at hr; exact hL _ rfl hr
    | S => rw [hk] at hr; exact hL _ rfl hr
theorem setLoc (H : FR c N U e h a w S β γ lam ω) (hd : ∀ t, o.dst = some t → t < N) {B b off : Nat} (hlam : lam B = some b) (hrun : (execOp a.eval o).run P w = .ok (.value (.pointer (some ⟨b, off, none⟩))) w) :
    After P c N (UG U gid) (.ok (e.upd o.dst { ent := ⟨.loc B off, none⟩ }) h) o a w :=
  After.val hrun (Sat.up ⟨S, β, γ, lam, ω, H.set hd (by simp only [SlotR]; exact ⟨b, hlam, rfl⟩) (fun _ _ h => by cases h) (fun _ h => by cases h)⟩)
theorem fieldAddr_op (hT : TOK P cx.T) (H : FR c N U e h a w S β γ lam ω) (hd : ∀ t, o.dst = some t → t < N) {t f : Nat} {x : Operand} (ho : o.op = .fieldAddr t x f) (hx : ∀ t, x = .tmp t → t < 1000) (hr : runOp cx e gid o h ≠ .fail) :
    After P c N (UG U gid) (runOp cx e gid o h) o a w := by
  unfold runOp opD at hr ⊢
  rw [ho] at hr ⊢
  cases x <;> simp only at hr ⊢ <;> (try exact absurd rfl hr)
  rename_i p
  have hp := H.slots p (hx p rfl)
  unfold opField at hr ⊢
  cases hv : (e.get p).v with
  | loc B off =>
    rw [hv] at hr hp
    simp only at hr ⊢
    simp only [SlotR] at hp
    obtain ⟨b, hlam, hpv⟩ := hp
    cases ht : cx.T t with
    | none => rw [ht] at hr; exact absurd rfl hr
    | some ti =>
      rw [ht] at hr
      simp only at hr ⊢
      cases hf : ti.offs[f]? with
      | none => rw [hf] at hr; exact absurd rfl hr
      | some q =>
        obtain ⟨o', ft, nm⟩ := q
        rw [hf] at hr
        simp only at hr ⊢
        cases hft : cx.T ft with
        | none => rw [hft] at hr; exact absurd rfl hr
        | some fi =>
          rw [hft] at hr
          simp only at hr ⊢
          cases hz : decide (fi.size = 0) with
          | true => rw [hz] at hr; exact absurd rfl hr
          | false =>
            simp only [cond_false]
            have hfa : fieldAddrA cx.T t (.hp 0 off) f = some (.hp 0 (off + o')) := by
              unfold fieldAddrA
              rw [ht]
              simp only
              rw [hf]
              simp only
              rw [hft]
              simp only
              rw [if_neg (by simpa using hz)]
            obtain ⟨v, h1, h2⟩ := fieldAddr_ok (P := P) (w := w) (S := S) (β := [(b, 1)]) hT hfa (vx := .pointer (some ⟨b, off, none⟩)) (by simp [VR])
            simp only [VR] at h2
            obtain ⟨b', hb', _, rfl⟩ := h2
            simp only [List.getElem?_cons_zero, Option.some.injEq] at hb'; subst hb'
            refine setLoc H hd hlam ?_
            have he : a.eval (.tmp p) = .pointer (some ⟨b, off, none⟩) := hpv
            simp only [execOp, ho, he, Sem.run_bind, h1, Result.andThen_ok, Sem.run_pure]
  | val av =>
    rw [hv] at hr hp
    simp only at hr ⊢
    refine pure_op H hd (m := Instr.fieldAt t (a.eval (.tmp p)) f) (by simp [execOp, ho]) (fun r hr' => fieldAddr_ok hT hr' hp) hr
theorem indexAddr_op (hT : TOK P cx.T) (H : FR c N U e h a w S β γ lam ω) (hd : ∀ t, o.dst = some t → t < N) {t : Nat} {x i : Operand} (ho : o.op = .indexAddr t x i) (hx : ∀ t, x = .tmp t → t < 1000) (hi : ∀ t, i = .tmp t → t < 1000) (hr : runOp cx e gid o h ≠ .fail) :
    After P c N (UG U gid) (runOp cx e gid o h) o a w := by
  unfold runOp opD at hr ⊢
  rw [ho] at hr ⊢
  cases x <;> simp only at hr ⊢ <;> (try exact absurd rfl hr)
  rename_i p
  have hp := H.slots p (hx p rfl)
  unfold opIndexAddr at hr ⊢
  cases hv : (e.get p).v with
  | loc B off =>
    rw [hv] at hr hp
    simp only at hr ⊢
    simp only [SlotR] at hp
    obtain ⟨b, hlam, hpv⟩ := hp
    cases ht : cx.T t with
    | none => rw [ht] at hr; exact absurd rfl hr
    | some ti =>
      rw [ht] at hr
      cases hci : constInt i with
      | none => rw [hci] at hr; exact absurd rfl hr
      | some n =>
      rw [hci] at hr
      simp only at hr ⊢
      obtain ⟨ik, rfl⟩ : ∃ ik, i = .const (.int ik n) := by
        unfold constInt at hci
        split at hci
        · simp only [Option.some.injEq] at hci; subst hci; exact ⟨_, rfl⟩
        · simp at hci
      cases hk : ti.kind <;> rw [hk] at hr <;> simp only at hr ⊢ <;> (try exact absurd rfl hr)
      rename_i m el
      cases hel : cx.T el with
      | none => rw [hel] at hr; exact absurd rfl hr
      | some ei =>
        rw [hel] at hr
        simp only at hr ⊢
        cases hc : decide (0 ≤ n ∧ n < m) with
        | false => rw [hc] at hr; exact absurd rfl hr
        | true =>
          simp only [cond_true]
          have hia : indexAddrA cx.T t (.hp 0 off) (.int ik n) = some (.hp 0 (off + n.toNat * ei.size)) := by
            unfold indexAddrA
            rw [ht]
            simp only
            rw [hk]
            simp only
            rw [hel]
            simp only
            rw [if_pos (by simpa using hc)]
          obtain ⟨v, h1, h2⟩ := indexAddr_ok (P := P) (w := w) (S := S) (β := [(b, 1)]) hT hia (vx := .pointer (some ⟨b, off, none⟩)) (vi := .int ik n) (by simp [VR]) (by simp [VR])
          simp only [VR] at h2
          obtain ⟨b', hb', _, rfl⟩ := h2
          simp only [List.getElem?_cons_zero, Option.some.injEq] at hb'; subst hb'
          refine setLoc H hd hlam ?_
          have he : a.eval (.tmp p) = .pointer (some ⟨b, off, none⟩) := hpv
          have hei : a.eval (.const (.int ik n)) = .int ik n := rfl
          simp only [execOp, ho, he, hei, Sem.run_bind, h1, Result.andThen_ok, Sem.run_pure]
  | val av =>
    rw [hv] at hr hp
    simp only at hr ⊢
    refine pure_op H hd (m := Instr.indexAt t (a.eval (.tmp p)) (a.eval i)) (by simp [execOp, ho]) (fun r hr' => indexAddr_ok hT hr' hp (opnd_ok H i hi)) hr
theorem nilCheck_op (H : FR c N U e h a w S β γ lam ω) (hd : ∀ t, o.dst = some t → t < N) {x : Operand} (ho : o.op = .nilCheck x) (hx : ∀ t, x = .tmp t → t < 1000) (hr : runOp cx e gid o h ≠ .fail) :
    After P c N (UG U gid) (runOp cx e gid o h) o a w := by
  unfold runOp opD at hr ⊢
  rw [ho] at hr ⊢
  cases x <;> simp only at hr ⊢ <;> (try exact absurd rfl hr)
  rename_i p
  have hp := H.slots p (hx p rfl)
  cases hv : (e.get p).v with
  | loc B off =>
    have hp2 := hp
    rw [hv] at hr hp
    simp only at hr ⊢
    simp only [SlotR] at hp
    obtain ⟨b, hlam, hpv⟩ := hp
    have he : a.eval (.tmp p) = .pointer (some ⟨b, off, none⟩) := hpv
    exact copy_op H hd (hx p rfl) (by simp [execOp, ho, he, hpv])
  | val av =>
    rw [hv] at hr hp
    simp only at hr ⊢
    have he : a.eval (.tmp p) = a.tmps.getD p undef := rfl
    cases hn : nilChkA av with
    | none => rw [hn] at hr; exact absurd rfl hr
    | some r =>
      have hrun : (execOp a.eval o).run P w = .ok (.value (a.tmps.getD p undef)) w ∧ r = av := by
        simp only [SlotR] at hp
        unfold nilChkA at hn
        split at hn <;> simp only [Option.some.injEq, reduceCtorEq] at hn <;> subst hn <;> simp only [VR] at hp
        · obtain ⟨b, off, vs, hpv, _⟩ := hp
          exact ⟨by simp [execOp, ho, he, hpv], rfl⟩
        · obtain ⟨b, hb, hpv⟩ := hp
          exact ⟨by simp [execOp, ho, he, hpv], rfl⟩
        · obtain ⟨y, hpv, _⟩ := hp
          exact ⟨by simp [execOp, ho, he, hpv], rfl⟩
        · obtain ⟨y, z, hpv, _⟩ := hp
          exact ⟨by simp [execOp, ho, he, hpv], rfl⟩
      obtain ⟨hrun, rfl⟩ := hrun
      exact After.val hrun (Sat.up ⟨S, β, γ, lam, ω, H.setV hd hp⟩)
end
end Go.Av

/- One operation: calls and appends. Conditions: the table of types is the program's; the calls are right. -/
namespace Go.Av
variable [Dr]
section
variable {P : Program} {cx : Cx} {c : Entry} {N : Nat} {U : Nat → Prop} {e : Env} {h : Hp} {a : Act} {w : World} {S : Stab} {β : List Blk} {γ : Nat → Value} {lam : Nat → Option Nat} {ω : Nat → Owner} {o : Oper} {gid : Nat}
theorem FR.out' (H : FR c N U e h a w S β γ lam ω) {S' : Stab} {β' : List Blk} {w' : World} {h' : Hp} (L : Left (HOwn β h) S β w S' β' w' h') : Out c h' w' S' β' := by
  obtain ⟨ω', F, _⟩ := H.left L
  exact F.out
theorem call_after (hC : CallsOK P cx.own cx.call) (H : FR c N U e h a w S β γ lam ω) (hd : ∀ t, o.dst = some t → t < N) (hU : ∀ g, gid ≤ g → g < gid + 1000 → ¬ U g) {f : FuncId} {args : List AV} {vs : List Value} (hargs : VRs S β args vs)
    (hrun : (P.funcs[f]?).any (fun fn => fn.body.isSome && !(fn.name == "runtime.NumGoroutine")) = true → (execOp a.eval o).run P w = .ok (.enter f vs.toArray) w) {sh : AV → Upd}
    (hsh : (∀ v, sh v = .ofV v) ∨ ∃ sz, cx.own f = some sz ∧ ∀ v, sh v = .own v gid (some sz))
    (hr : (bnd (cx.call f args) fun v => M.pure (e.upd o.dst (sh v))) h ≠ .fail) : After P c N (UG U gid) ((bnd (cx.call f args) fun v => M.pure (e.upd o.dst (sh v))) h) o a w := by
  have hne : cx.call f args h ≠ .fail := by
    intro hf
    unfold bnd at hr
    rw [hf] at hr
    exact hr rfl
  obtain ⟨hcalls, hfn⟩ := hC f args h S β w vs hne H.gok H.wf H.heapX hargs
  have hrun := hrun hfn
  intro next Q hn hp
  unfold Oper.wp
  rw [hrun]
  simp only [Oper.upon]
  refine hcalls.mono fun en w' hpost => ?_
  unfold bnd at hn hp
  cases hres : cx.call f args h with
  | fail => exact absurd hres hne
  | pan pv h' =>
    rw [hres] at hpost hp
    obtain ⟨S', β', v, rfl, hv, hleft⟩ := hpost
    exact hp pv h' v w' rfl ⟨S', β', H.out' hleft, hv⟩
  | ok rv h' =>
    rw [hres] at hpost hn
    obtain ⟨S', β', v, rfl, hv, hleft, hown⟩ := hpost
    obtain ⟨ω', F, hno⟩ := H.left hleft
    refine hn (e.upd o.dst (sh rv)) h' _ _ rfl ?_ (put_defers a o.dst v)
    rcases hsh with hsh | ⟨sz, hof, hsh⟩
    · rw [hsh]; exact Sat.up ⟨_, _, _, _, _, F.setV hd hv⟩
    · rw [hsh]
      obtain ⟨ad, len, cap, rfl, h1, h2, h3⟩ := hown sz hof
      obtain ⟨ω2, F2⟩ := F.own (z := some sz) hd hv hU (by
        rcases h3 with h3 | ⟨b, off, x, rfl, g1, g2, g3, g4, g5⟩
        · subst h3; exact .inl ⟨ad, len, rfl, h2⟩
        · exact .inr ⟨len, cap, sz, b, off, x, rfl, h1, rfl, g1, g2, hno b g3 g4, Nat.le_trans H.size g3, g5⟩)
      exact ⟨_, _, _, _, ω2, F2⟩
omit [Dr] in
theorem callFunc_run {f : FuncId} {args : Array Value} (hf : (P.funcs[f]?).any (fun fn => fn.body.isSome && !(fn.name == "runtime.NumGoroutine")) = true) : (callFunc f args).run P w = .ok (.enter f args) w := by
  cases hfn : P.funcs[f]? with
  | none => rw [hfn] at hf; simp at hf
  | some fn =>
    rw [hfn] at hf
    simp only [Option.any_some, Bool.and_eq_true, Bool.not_eq_true'] at hf
    obtain ⟨h1, h2⟩ := hf
    have h3 : fn.body.isNone = false := by cases hb : fn.body <;> simp_all
    simp only [callFunc, Sem.run_bind, run_program, Result.andThen_ok, hfn, h2, Bool.false_eq_true, if_false, h3, Sem.run_pure]
omit [Dr] in
theorem free_room {z : Option Nat} {g sz : Nat} {v : Value} (hf : FreeR S w ω g z v) (hz : szOk z (some sz) = true) : RoomOf w sz v ∧ (z = none ∨ z = some sz) := by
  have hz' : z = none ∨ z = some sz := by
    unfold szOk at hz
    cases z with
    | none => exact .inl rfl
    | some n => simp only at hz; exact .inr (by rw [Nat.eq_of_beq_eq_true hz])
  refine ⟨?_, hz'⟩
  obtain ⟨ad, len, cap, h1, h2, h3, h4⟩ := hf
  refine ⟨ad, len, cap, h1, h2, h3, h4.imp id ?_⟩
  rintro ⟨sz', b, off, x, g1, g2, g3, g4, _⟩
  rcases hz' with rfl | rfl
  · cases g1
  · cases g1; exact ⟨b, off, x, g2, g3, g4⟩
omit [Dr] in
theorem appA_inv {T : TT} {t : Nat} {as : List AV} {y r : AV} (h : appA T t (.sl as) y = some r) : ∃ ti e ei bs, T t = some ti ∧ ti.kind = .slice e ∧ T e = some ei ∧ elsOf y = some bs ∧ okSz ei.size as = true ∧ okSz ei.size bs = true ∧
    (as.length + bs.length) * ei.bytes ≤ 140737488355328 ∧ 0 < ei.bytes ∧ r = .sl (as ++ bs) ∧ elemSize T t = some ei.size ∧ strOk y ei.size = true := by
  unfold appA at h
  cases ht : T t with
  | none => rw [ht] at h; simp at h
  | some ti =>
    rw [ht] at h
    simp only at h
    split at h
    · rename_i e hk
      cases he : T e with
      | none => rw [he] at h; simp at h
      | some ei =>
        rw [he] at h
        simp only at h
        cases hb : elsOf y with
        | none => rw [hb] at h; simp at h
        | some bs =>
          rw [hb] at h
          simp only at h
          cases hc : (okSz ei.size as && okSz ei.size bs && decide ((as.length + bs.length) * ei.bytes ≤ 140737488355328) && decide (0 < ei.bytes) && strOk y ei.size) with
          | false => rw [hc] at h; simp at h
          | true =>
            rw [hc] at h
            simp only [cond_true, Option.some.injEq] at h
            simp only [Bool.and_eq_true, decide_eq_true_eq] at hc
            obtain ⟨⟨⟨⟨h1, h2⟩, h3⟩, h4⟩, h5⟩ := hc
            exact ⟨ti, e, ei, bs, rfl, hk, he, rfl, h1, h2, h3, h4, h.symm, by simp [elemSize, ht, hk, he], h5⟩
    · simp at h
omit [Dr] in
theorem appA_sl {T : TT} {t : Nat} {x y r : AV} (h : appA T t x y = some r) : ∃ as, x = .sl as := by
  unfold appA at h
  split at h
  · simp at h
  · split at h
    · split at h
      · simp at h
      · split at h
        · exact ⟨_, rfl⟩
        · simp at h
    · simp at h
omit [Dr] in
theorem strOk_inv {y : AV} {n : Nat} (h : strOk y n = true) : ∀ s, y = .str s → n = 1 := by
  rintro s rfl
  exact Nat.eq_of_beq_eq_true h
omit [Dr] in
theorem append_exec {t u : TypeId} {x y : Operand} {cc : Call} (ho : o.op = .call cc) (hb : cc.callee = .builtin .append) (ht : cc.argTypes.toList = [t, u]) (hx : cc.args.toList = [x, y]) {v : Value} {w' : World}
    (hrun : (Builtin.append_ #[t, u] o.type #[a.eval x, a.eval y]).run P w = .ok v w') : (execOp a.eval o).run P w = .ok (.value v) w' := by
  have h1 : cc.argTypes = #[t, u] := by apply Array.ext'; simpa using ht
  have h2 : cc.args = #[x, y] := by apply Array.ext'; simpa using hx
  have h3 : cc.args.map a.eval = #[a.eval x, a.eval y] := by rw [h2]; simp
  simp only [execOp, ho, resolve, hb, Sem.run_bind, Sem.run_pure, Result.andThen_ok, invoke, builtin, h1, h3, hrun]
omit [Dr] in
theorem flat_chunks {ag : Bool} {sz : Nat} (hs : ag = true ∨ sz = 1) : ∀ (n : Nat) (cs : List AV) (vs : List Value), VRs S β cs vs → n * sz ≤ cs.length → (cs.take (n * sz)).all okCell = true → FlatEls S β (chunksA ag sz n cs) (vs.take (n * sz)) sz
  | 0, cs, vs, _, _, _ => by rw [Nat.zero_mul, List.take_zero]; exact .nil sz
  | n + 1, cs, vs, hv, hl, hok => by
    have hm : (n + 1) * sz = sz + n * sz := by rw [Nat.add_mul, Nat.one_mul, Nat.add_comm]
    have hle : sz ≤ cs.length := by omega
    have hvl := hv.length
    have h1 : FlatEls S β [bif ag then .agg (cs.take sz) else nth cs 0] (vs.take sz) sz := by
      have hcl : (vs.take sz).length = sz := by simp; omega
      have hone : ∀ (c : AV) (x : Value) (j : Nat), j < sz → cs[j]? = some c → vs[j]? = some x → x.cells = #[x] ∧ x.oneCell' = true := fun c x j hj hc hx => by
        obtain ⟨y, hy, hr⟩ := hv.get hc
        rw [hx] at hy
        cases hy
        refine okCell_ok (List.all_eq_true.1 hok c (List.mem_of_getElem? (i := j) ?_)) hr
        rw [List.getElem?_take, if_pos (by omega)]
        exact hc
      have hex : ∀ (j : Nat) (x : Value), j < sz → vs[j]? = some x → ∃ c, cs[j]? = some c := fun j x hj hx => ⟨_, List.getElem?_eq_getElem (by omega)⟩
      refine ⟨by rw [hcl]; simp, fun i e he => ?_, fun x hx => ?_⟩
      · cases i with
        | succ i => simp at he
        | zero =>
          simp only [List.getElem?_cons_zero, Option.some.injEq] at he
          subst he
          cases ag with
          | true =>
            refine ⟨.agg (vs.take sz).toArray, by simp only [cond_true, VR]; exact ⟨_, rfl, hv.take sz⟩, by simp [Value.cells]; omega, fun j x hx => ?_⟩
            simpa [Value.cells] using hx
          | false =>
            rcases hs with hs | hs
            · cases hs
            · subst hs
              have hc0 : cs[0]? = some (nth cs 0) := by
                unfold nth
                rw [List.getElem?_eq_getElem (by omega), List.getD_eq_getElem?_getD, List.getElem?_eq_getElem (by omega)]
                rfl
              obtain ⟨y, hy, hr⟩ := hv.get hc0
              have ho := hone _ y 0 (by omega) hc0 hy
              refine ⟨y, hr, by rw [ho.1]; rfl, fun j x hx => ?_⟩
              rw [ho.1] at hx
              cases j with
              | succ j => simp at hx
              | zero =>
                simp only [List.getElem?_toArray, List.getElem?_cons_zero, Option.some.injEq] at hx
                subst hx
                simp only [Nat.zero_mul, Nat.zero_add, List.getElem?_toArray]
                rw [List.getElem?_take, if_pos (by omega)]
                exact hy
      · obtain ⟨j, hj⟩ := List.getElem?_of_mem hx
        rw [List.getElem?_take] at hj
        split at hj
        · rename_i hlt
          obtain ⟨c, hc⟩ := hex j x hlt hj
          exact (hone c x j hlt hc hj).2
        · simp at hj
    have h2 := flat_chunks hs n (cs.drop sz) (vs.drop sz) (hv.drop sz) (by simp; omega) (by
      rw [List.all_eq_true] at hok ⊢
      intro x hx
      obtain ⟨j, hj⟩ := List.getElem?_of_mem hx
      rw [List.getElem?_take] at hj
      split at hj
      · rename_i hlt
        rw [List.getElem?_drop] at hj
        refine hok x (List.mem_of_getElem? (i := sz + j) ?_)
        rw [List.getElem?_take, if_pos (by omega)]
        exact hj
      · simp at hj)
    have := h1.append h2
    rw [hm, List.take_add]
    exact this
def SrcOK (P : Program) (S : Stab) (β : List Blk) (w : World) (v : Value) (Y : AV) : Prop :=
  ∀ (sz : Nat) (bs : List AV), elsOf Y = some bs → okSz sz bs = true → (∀ s, Y = .str s → sz = 1) → (Builtin.lenOf v).run P w = .ok bs.length w ∧ ∃ cs : List Value, FlatEls S β bs cs sz ∧
    ∀ w' : World, (∀ a : Addr, w'.cell? a = w.cell? a) → (Builtin.firstCells sz bs.length v).run P w' = .ok cs.toArray w'
omit [Dr] in
theorem srcOK_vr {Y : AV} {v : Value} (hw : Wf S w) (hv : VR S β Y v) : SrcOK P S β w v Y := fun sz bs he hok hs => by
  obtain ⟨h1, cs, h2, h3⟩ := src_ok (P := P) hw he hv hok hs
  exact ⟨h1, cs, h2, fun w' hw' => h3 w' fun b o x hx => by rw [hw']; exact hw b o x hx⟩
omit [Dr] in
theorem chunks_len (ag : Bool) (sz : Nat) : ∀ (n : Nat) (cs : List AV), (chunksA ag sz n cs).length = n
  | 0, _ => rfl
  | n + 1, cs => by simp [chunksA, chunks_len ag sz n]
theorem srcOK_heap (H : FR c N U e h a w S β γ lam ω) {Y : AV} {v : Value} {es : List AV} (hv : VR S β Y v) (hsrc : srcA h Y = some es) : SrcOK P S β w v (.sl es) := fun sz' bs he hok _ => by
  simp only [elsOf, Option.some.injEq] at he
  subst he
  unfold srcA at hsrc
  split at hsrc
  · rename_i l off len sz ag
    cases hcs : h[l]? with
    | none => rw [hcs] at hsrc; cases hsrc
    | some cs =>
      rw [hcs] at hsrc
      simp only at hsrc
      cases hb : ((ag || Nat.beq sz 1) && decide (off + len * sz ≤ cs.length) && ((cs.drop off).take (len * sz)).all okCell) with
      | false => rw [hb] at hsrc; cases hsrc
      | true =>
        rw [hb] at hsrc
        simp only [cond_true, Option.some.injEq] at hsrc
        subst hsrc
        simp only [Bool.and_eq_true, decide_eq_true_eq, Bool.or_eq_true] at hb
        obtain ⟨⟨h1, h2⟩, h3⟩ := hb
        have hag : ag = true ∨ sz = 1 := h1.imp id Nat.eq_of_beq_eq_true
        rw [chunks_len]
        rcases Nat.eq_zero_or_pos len with rfl | h0
        · obtain ⟨q, cap, rfl, _⟩ := hv.hs_some
          exact ⟨rfl, [], by simp only [chunksA]; exact .nil sz', fun w' _ => run_firstCells_some w' sz' 0 q 0 cap [] (by simp) fun j x hx => by simp at hx⟩
        · obtain ⟨⟨b', nb⟩, cap, hβ, hb0, rfl, hlc, hcn⟩ := hv.hs_pos h0
          have hne : cs ≠ [] ∨ sz = 0 := by
            rcases Nat.eq_zero_or_pos sz with hz | hz
            · exact .inr hz
            · refine .inl ?_
              rintro rfl
              have := Nat.mul_pos h0 hz
              simp at h2
              omega
          -- the size of an element is that of the slice
          have hsz : sz' = sz := by
            have hall := List.all_eq_true.1 hok (bif ag then .agg ((cs.drop off).take sz) else nth (cs.drop off) 0) (by
              cases len with
              | zero => omega
              | succ n => simp [chunksA])
            simp only [okEl, Bool.and_eq_true, beq_iff_eq] at hall
            have hsa := hall.1
            have hle : sz ≤ (cs.drop off).length := by
              have : 1 * sz ≤ len * sz := Nat.mul_le_mul_right _ h0
              simp
              omega
            cases ag with
            | true =>
              simp only [cond_true, sizeA, Option.some.injEq, List.length_take] at hsa
              omega
            | false =>
              rcases hag with hag | hag
              · cases hag
              · subst hag
                simp only [cond_false] at hsa
                have hc0 : (cs.drop off)[0]? = some (nth (cs.drop off) 0) := by
                  unfold nth
                  rw [List.getElem?_eq_getElem (by omega), List.getD_eq_getElem?_getD, List.getElem?_eq_getElem (by omega)]
                  rfl
                have hoc := List.all_eq_true.1 h3 (nth (cs.drop off) 0) (List.mem_of_getElem? (i := 0) (by rw [List.getElem?_take, if_pos (by omega)]; exact hc0))
                generalize nth (cs.drop off) 0 = q at hsa hoc
                cases q <;> simp [okCell, sizeA] at hsa hoc <;> omega
          subst hsz
          rcases hne with hne | hz
          · obtain ⟨z, j1, j2, j3, j4, j5⟩ := H.heap.cells hcs hne hβ hb0
            rw [hβ] at j1
            cases j1
            have hzl : cs.length ≤ z.size := by have := j4.length; simp at this; omega
            have j6 : VRs S β (cs.drop off) ((z.toList.take cs.length).drop off) := j4.drop off
            have hF := flat_chunks hag len (cs.drop off) _ j6 (by simp; omega) h3
            refine ⟨rfl, _, hF, fun w' hw' => ?_⟩
            refine run_firstCells_some w' sz' len ⟨b', off, none⟩ len cap _ (by simp; omega) fun j q hq => ?_
            rw [addr_add, hw', j2.cell]
            rw [List.getElem?_take] at hq
            split at hq
            · rw [List.getElem?_drop, List.getElem?_take] at hq
              split at hq
              · simpa using hq
              · simp at hq
            · simp at hq
          · subst hz
            rcases hag with rfl | hag
            · have hall : ∀ n cs, FlatEls S β (chunksA true 0 n cs) [] 0 := by
                intro n
                induction n with
                | zero => intro cs; exact .nil 0
                | succ n ih =>
                  intro cs
                  have : FlatEls S β [AV.agg (cs.take 0)] [] 0 := ⟨by simp, fun i e he => by
                    cases i with
                    | zero =>
                      simp only [List.getElem?_cons_zero, Option.some.injEq] at he
                      subst he
                      exact ⟨.agg #[], by simp only [VR, List.take_zero]; exact ⟨[], rfl, by simp [VRs]⟩, rfl, fun j x hx => by simp [Value.cells] at hx⟩
                    | succ i => simp at he, fun x hx => by simp at hx⟩
                  exact this.append (ih _)
              exact ⟨rfl, [], hall _ _, fun w' _ => run_firstCells_some w' 0 len _ len cap [] (by simp) fun j x hx => by simp at hx⟩
            · omega
  · cases hsrc
    exact srcOK_vr (P := P) H.wf hv sz' [] rfl hok (fun s h => by cases h)
  · cases hsrc
    exact srcOK_vr (P := P) H.wf hv sz' _ rfl hok (fun s h => by cases h)
  · cases hsrc
theorem append_op (hT : TOK P cx.T) (H : FR c N U e h a w S β γ lam ω) (hd : ∀ t, o.dst = some t → t < N) (hU : ∀ g, gid ≤ g → g < gid + 1000 → ¬ U g) {t u : TypeId} {x y : Operand} {cc : Call} (ho : o.op = .call cc) (hb : cc.callee = .builtin .append)
    (hts : cc.argTypes.toList = [t, u]) (hxs : cc.args.toList = [x, y]) (hu : isAppT cx.T u = true) {as : List AV} {vx : Value} {g0 : Option Nat} {r Y : AV} (hav : a.eval x = vx) (hx : VR S β (.sl as) vx)
    (hfree : (g0 = none ∧ vx = .slice none 0 0) ∨ ∃ g z, g0 = some g ∧ FreeR S w ω g z vx ∧ szOk z (elemSize cx.T t) = true) (happ : appA cx.T t (.sl as) Y = some r) (hsrc : SrcOK P S β w (a.eval y) Y) :
    After P c N (UG U gid) (.ok (e.upd o.dst { Upd.own r gid (elemSize cx.T t) with drop := g0 }) h) o a w := by
  obtain ⟨ti, el, ei, bs, ht, hk, hei, hels, hoa, hob, hby, hb0, rfl, hes, hstr⟩ := appA_inv happ
  rw [hes] at hfree ⊢
  have hroom : RoomOf w ei.size vx := by
    rcases hfree with ⟨_, rfl⟩ | ⟨g, z, _, hf, hz⟩
    · exact ⟨none, 0, 0, rfl, Nat.le_refl _, fun _ => rfl, .inl rfl⟩
    · exact (free_room hf hz).1
  obtain ⟨hlen, cs, hflat, hfirst⟩ := hsrc ei.size bs hels hob (strOk_inv hstr)
  obtain ⟨v, w', hrun, hA⟩ := append_run (ty := o.type) hT H.wf ht hk hei hu hx hlen hflat hfirst hoa hby hb0 hroom
  have hfr2 : ∃ z, ((g0 = none ∧ vx = .slice none 0 0) ∨ ∃ g, g0 = some g ∧ FreeR S w ω g z vx) ∧ (z = none ∨ z = some ei.size) := by
    rcases hfree with h1 | ⟨g, z, h1, hf, hz⟩
    · exact ⟨none, .inl h1, .inl rfl⟩
    · exact ⟨z, .inr ⟨g, h1, hf⟩, (free_room hf hz).2⟩
  obtain ⟨z, hf2, hz2⟩ := hfr2
  obtain ⟨S', ω', F⟩ := H.app hd hU hx hoa hf2 hz2 hA
  exact After.val (append_exec ho hb hts hxs (by rw [hav]; exact hrun)) ⟨_, _, _, _, _, F⟩
end
end Go.Av

/- One operation: appends in the heap; all operations together. Conditions: the table of types is the program's; the calls are right. -/
namespace Go.Av
variable [Dr]
section
variable {P : Program} {cx : Cx} {c : Entry} {N : Nat} {U : Nat → Prop} {e : Env} {h : Hp} {a : Act} {w : World} {S : Stab} {β : List Blk} {γ : Nat → Value} {lam : Nat → Option Nat} {ω : Nat → Owner} {o : Oper} {gid : Nat}
omit [Dr] in
theorem flat_cells {sz : Nat} {x : Array Value} : (es : List AV) → (off : Nat) → (∀ (i : Nat) (e : AV), es[i]? = some e → ∃ v, VR S β e v ∧ v.cells.size = sz ∧ ∀ (j : Nat) (y : Value), v.cells[j]? = some y → x[off + i * sz + j]? = some y) →
    okSz sz es = true → (es.flatMap acells).length = es.length * sz ∧ VRs S β (es.flatMap acells) ((x.toList.drop off).take (es.length * sz))
  | [], off, _, _ => by simp [VRs]
  | e :: es, off, hh, hok => by
    simp only [okSz, List.all_cons, Bool.and_eq_true] at hok
    obtain ⟨v, v1, v2, v3⟩ := hh 0 e (by simp)
    obtain ⟨k1, k2, k3⟩ := okEl_ok hok.1 v1
    obtain ⟨h1, h2⟩ := flat_cells es (off + sz) (fun i e' he => by
      obtain ⟨u, u1, u2, u3⟩ := hh (i + 1) e' (by simpa using he)
      exact ⟨u, u1, u2, fun j y hy => by
        have := u3 j y hy
        rwa [show off + (i + 1) * sz + j = off + sz + i * sz + j by rw [Nat.add_mul]; omega] at this⟩) hok.2
    have hacl : (acells e).length = sz := by rw [← k2.length]; simpa using k1
    refine ⟨by simp [h1, hacl, Nat.add_mul]; omega, ?_⟩
    have hfirst : (x.toList.drop off).take sz = v.cells.toList := by
      apply List.ext_getElem?
      intro j
      rw [List.getElem?_take]
      split
      · rename_i hj
        rw [List.getElem?_drop, Array.getElem?_toList, Array.getElem?_toList]
        have : j < v.cells.size := by omega
        have hv := v3 j v.cells[j] (Array.getElem?_eq_getElem this)
        simp only [Nat.zero_mul, Nat.add_zero] at hv
        rw [hv, Array.getElem?_eq_getElem this]
      · rename_i hj
        rw [List.getElem?_eq_none]
        simp; omega
    have hsplit : (x.toList.drop off).take ((e :: es).length * sz) = v.cells.toList ++ (x.toList.drop (off + sz)).take (es.length * sz) := by
      rw [← hfirst, List.length_cons, Nat.add_mul, Nat.one_mul, Nat.add_comm (es.length * sz) sz, List.take_add, List.drop_drop]
    rw [hsplit, List.flatMap_cons]
    exact k2.append h2
inductive AppRaw (w : World) (el sz n0 n : Nat) (olds news : List Value) (vx : Value) : Value → World → Prop where
  | same (h : n = 0) : AppRaw w el sz n0 n olds news vx vx w
  | place (b off cap : Nat) (x : Array Value) (hv : vx = .slice (some ⟨b, off, none⟩) n0 cap) (hr : Row w b x) (hlt : n0 + n ≤ cap) (hc : off + cap * sz ≤ x.size) (hn : n ≠ 0) :
      AppRaw w el sz n0 n olds news vx (.slice (some ⟨b, off, none⟩) (n0 + n) cap)
        (w.setRow b (x.toList.take (off + n0 * sz) ++ news ++ x.toList.drop (off + n0 * sz + news.length)).toArray)
  | fresh (x : Array Value) (e cap : Nat) (hlt : n0 + n ≤ cap) (hc : x.size = cap * sz) (hr : ∀ (i : Nat) (y : Value), (olds ++ news)[i]? = some y → x[i]? = some y) (hn : n ≠ 0) (he : e = el) :
      AppRaw w el sz n0 n olds news vx (.slice (some ⟨w.heap.size, 0, none⟩) (n0 + n) cap) (w.drew.alloc (.cells x e))
omit [Dr] in
theorem append_raw {T : TT} (hT : TOK P T) {t u e ty : Nat} {ti ei : TI} {n0 n : Nat} {olds news : List Value} {vx vy : Value} (ht : T t = some ti) (hk : ti.kind = .slice e) (hei : T e = some ei)
    (hu : isAppT T u = true) (hvx : ∃ a cap, vx = .slice a n0 cap) (hlen : (Builtin.lenOf vy).run P w = .ok n w) (hfirst : ∀ w' : World, (∀ a : Addr, w'.cell? a = w.cell? a) → (Builtin.firstCells ei.size n vy).run P w' = .ok news.toArray w')
    (hold : ∀ w' : World, (∀ a : Addr, w'.cell? a = w.cell? a) → (Builtin.firstCells ei.size n0 vx).run P w' = .ok olds.toArray w') (hol : olds.length = n0 * ei.size) (hnl : news.length = n * ei.size) (hone : ∀ x ∈ news, x.oneCell' = true)
    (hby : (n0 + n) * ei.bytes ≤ 140737488355328) (hb0 : 0 < ei.bytes) (hroom : RoomOf w ei.size vx) :
    ∃ v w', (Builtin.append_ #[t, u] ty #[vx, vy]).run P w = .ok v w' ∧ AppRaw w e ei.size n0 n olds news vx v w' := by
  obtain ⟨_, d, _, _, hd, _, _, _, _, hkd, _⟩ := (hT.get ht).ex
  have hd' : d = .slice e := by cases d <;> simp_all [kindOf]
  subst hd'
  obtain ⟨ii, _, zz, hii, _, hzz, hzs, hsz, hbb, _⟩ := (hT.get hei).ex
  have hz : ∃ du, P.underlying u = some du ∧ ((∃ e', du = .slice e') ∨ du = .string) := by
    unfold isAppT at hu
    split at hu
    · rename_i tu htu
      obtain ⟨_, du, _, _, hdu, _, _, _, _, hku, _⟩ := (hT.get htu).ex
      refine ⟨du, hdu, ?_⟩
      split at hu
      · rename_i e' hk'
        exact .inl ⟨e', by cases du <;> simp_all [kindOf]⟩
      · exact .inr (by cases du <;> simp_all [kindOf])
      · simp at hu
    · simp at hu
  obtain ⟨du, hdu, hduk⟩ := hz
  obtain ⟨a, len, cap, rfl, hlc, hnone, hspare⟩ := hroom
  obtain ⟨a', cap', he⟩ := hvx
  simp only [Value.slice.injEq] at he
  obtain ⟨rfl, rfl, rfl⟩ := he
  by_cases hfit : len + n ≤ cap
  · by_cases hn0 : n = 0
    · subst hn0
      refine ⟨.slice a len cap, w, ?_, .same rfl⟩
      have hns : news = [] := List.eq_nil_of_length_eq_zero (by simpa using hnl)
      subst hns
      have hf : (Builtin.firstCells ei.size 0 vy).run P w = .ok #[] w := by simpa using hfirst w (fun _ => rfl)
      rcases hduk with ⟨e', rfl⟩ | rfl <;> cases a <;>
        simp [Builtin.append_, run_underlying hd, run_underlying hdu, sizeOf, typeInfo, hii, hsz, hlen, hlc, hf, storeCells]
    · rcases hspare with hsp | ⟨b, off, x, rfl, ⟨ce, hrow⟩, hcap⟩
      · omega
      · refine ⟨_, _, ?_, .place b off cap x rfl ⟨ce, hrow⟩ hfit hcap hn0⟩
        have hf := hfirst w (fun _ => rfl)
        have hle : (len + n) * ei.size ≤ cap * ei.size := Nat.mul_le_mul_right _ hfit
        rw [Nat.add_mul] at hle
        have hst := run_storeCells_at P b (off + len * ei.size) ce news 0 x w hrow (by omega) hone
        simp only [Nat.add_zero] at hst
        rcases hduk with ⟨e', rfl⟩ | rfl <;>
          simp [Builtin.append_, run_underlying hd, run_underlying hdu, sizeOf, typeInfo, hii, hsz, hlen, hfit, hf, addr_add, hst]
  · have hne : n ≠ 0 := by rintro rfl; omega
    have hgt : cap < len + n := by omega
    have h63 : ¬ (9223372036854775807 < ((len : Int) + (n : Int))) := by
      have := Nat.le_trans (Nat.le_mul_of_pos_right (len + n) hb0) hby
      omega
    have hfit48 := growslice_fits hgt hby
    have h48 : ¬ (281474976710656 < Builtin.nextslicecap (len + n) cap * ei.bytes) := by omega
    have hb0' : ei.bytes ≠ 0 := by omega
    have hof := hold w.drew (fun a => World.cell?_drew ..)
    have hf := hfirst w.drew (fun a => World.cell?_drew ..)
    have hcapn : len + n ≤ grownCap w (len + n) cap e := Nat.le_add_right _ _
    have hzcs : (Builtin.zeroCells zz.cells (grownCap w (len + n) cap e - (len + n))).size = (grownCap w (len + n) cap e - (len + n)) * ei.size := by
      rw [size_zeroCells, hzs, hsz]
    refine ⟨_, _, ?_, .fresh ((olds ++ news).toArray ++ Builtin.zeroCells zz.cells (grownCap w (len + n) cap e - (len + n))) e (grownCap w (len + n) cap e) hcapn ?_ ?_ hne rfl⟩
    · rcases hduk with ⟨e', rfl⟩ | rfl <;>
        (simp [Builtin.append_, run_underlying hd, run_underlying hdu, sizeOf, typeInfo, zeroValue, hii, hsz, hzz, hlen, hfit, hbb, h48, hb0', Question.forced, hf, hof, newRow, grownCap]
         congr 2
         apply Array.ext'
         simp)
    · rw [Array.size_append, hzcs]
      simp only [List.size_toArray, List.length_append, hol, hnl]
      rw [← Nat.add_mul, ← Nat.add_mul]
      congr 1
      omega
    · intro i y hy
      rw [Array.getElem?_append]
      split
      · simpa using hy
      · rename_i hlt
        rw [List.getElem?_eq_none (by simpa using hlt)] at hy
        simp at hy
end
end Go.Av

/- One operation: appends in the heap. Conditions: the table of types is the program's. -/
namespace Go.Av
variable [Dr]
section
variable {P : Program} {cx : Cx} {c : Entry} {N : Nat} {U : Nat → Prop} {e : Env} {h : Hp} {a : Act} {w : World} {S : Stab} {β : List Blk} {γ : Nat → Value} {lam : Nat → Option Nat} {ω : Nat → Owner} {o : Oper} {gid : Nat}
omit [Dr] in
theorem flat_of_FlatEls {es : List AV} {cs : List Value} {sz : Nat} (hf : FlatEls S β es cs sz) (hok : okSz sz es = true) : (es.flatMap acells).length = es.length * sz ∧ VRs S β (es.flatMap acells) cs := by
  obtain ⟨h1, h2, _⟩ := hf
  obtain ⟨g1, g2⟩ := flat_cells (x := cs.toArray) es 0 (fun i e he => by
    obtain ⟨v, v1, v2, v3⟩ := h2 i e he
    exact ⟨v, v1, v2, fun j y hy => by rw [Nat.zero_add]; exact v3 j y hy⟩) hok
  refine ⟨g1, ?_⟩
  have : (cs.toArray.toList.drop 0).take (es.length * sz) = cs := by simp [← h1]
  rw [this] at g2
  exact g2
theorem buildH_op (hT : TOK P cx.T) (H : FR c N U e h a w S β γ lam ω) (hd : ∀ t, o.dst = some t → t < N) {t n : Nat} {ps : Array (Nat × Operand)} (ho : o.op = .buildSlice t n ps)
    (ht : ∀ p ∈ ps.toList, ∀ t, p.2 = .tmp t → t < 1000) (hr : runAct e o.dst (.dyn (buildH cx.T t n (ps.toList.map fun p => (p.1, opnd e p.2))) .ofV) h ≠ .fail) :
    After P c N (UG U gid) (runAct e o.dst (.dyn (buildH cx.T t n (ps.toList.map fun p => (p.1, opnd e p.2))) .ofV) h) o a w := by
  simp only [runAct, bnd, M.pure] at hr ⊢
  unfold buildH at hr ⊢
  cases hb : buildSliceA cx.T t n (ps.toList.map fun p => (p.1, opnd e p.2)) with
  | none => rw [hb] at hr; exact absurd rfl hr
  | some r =>
    obtain ⟨es, x, el, sz, rfl, hlen, hrow, hrun⟩ := buildSlice_ok (w := w) (qs := ps.map fun p => (p.1, a.eval p.2)) hT hb (by simpa using partsR_ok H ps.toList ht)
    rw [hb] at hr
    simp only at hr ⊢
    cases htt : cx.T t with
    | none => rw [htt] at hr; exact absurd rfl hr
    | some ti =>
      rw [htt] at hr
      simp only at hr ⊢
      cases hk : ti.kind <;> rw [hk] at hr <;> simp only at hr ⊢ <;> (try exact absurd rfl hr)
      rename_i e'
      cases hei : cx.T e' with
      | none => rw [hei] at hr; exact absurd rfl hr
      | some ei =>
        rw [hei] at hr
        simp only at hr ⊢
        cases hc : (okSz ei.size es && decide (0 < ei.size) && decide (0 < n)) with
        | false => rw [hc] at hr; exact absurd rfl hr
        | true =>
          simp only [cond_true]
          simp only [Bool.and_eq_true, decide_eq_true_eq] at hc
          obtain ⟨⟨h1, h2⟩, h3⟩ := hc
          have hsz : sz = ei.size := by
            obtain ⟨v, v1, v2, _⟩ := hrow 0 es[0] (List.getElem?_eq_getElem (by omega))
            have := (okEl_ok (List.all_eq_true.1 h1 es[0] (List.getElem_mem (by omega))) v1).1
            omega
          subst hsz
          obtain ⟨g1, g2⟩ := flat_cells (x := x) es 0 (fun i e he => by
            obtain ⟨v, v1, v2, v3⟩ := hrow i e he
            exact ⟨v, v1, v2, fun j y hy => by rw [Nat.zero_add]; exact v3 j y hy⟩) h1
          rw [List.drop_zero, ← g1] at g2
          have hle : n * ei.size ≤ x.size := by
            have := g2.length
            simp only [List.length_take, g1, hlen, Array.length_toList] at this
            omega
          have hex : (execOp a.eval o).run P w = .ok (.value (.slice (some ⟨w.heap.size, 0, none⟩) n n)) (w.alloc (.cells x el)) := by
            simp only [execOp, ho, Sem.run_bind, hrun, Result.andThen_ok, Sem.run_pure]
          obtain ⟨ω', F, hnew, hext⟩ := H.newH x el g2 (fun t ht => absurd ht (nob_okSz h1 t))
          refine After.val hex (Sat.up ⟨_, _, γ, lam, ω', F.setV hd ?_⟩)
          simp only [VR]
          have hx0 : x.size ≠ 0 := by
            have := Nat.mul_pos h3 h2
            omega
          exact .inl ⟨(w.heap.size, x.size), n, hnew, hx0, rfl, Nat.le_refl _, by simpa using hle⟩
theorem appH_op (hT : TOK P cx.T) (H : FR c N U e h a w S β γ lam ω) (hd : ∀ t, o.dst = some t → t < N) {t u : TypeId} {x y : Operand} {cc : Call} (ho : o.op = .call cc) (hb : cc.callee = .builtin .append)
    (hts : cc.argTypes.toList = [t, u]) (hxs : cc.args.toList = [x, y]) (hx : ∀ t, x = .tmp t → t < 1000) (hy : ∀ t, y = .tmp t → t < 1000) (hu : isAppT cx.T u = true)
    (hr : runAct e o.dst (.dyn (appH cx.T t (noSpare e x) (opnd e x) (opnd e y)) .ofV) h ≠ .fail) : After P c N (UG U gid) (runAct e o.dst (.dyn (appH cx.T t (noSpare e x) (opnd e x) (opnd e y)) .ofV) h) o a w := by
  have hvx := opnd_ok H x hx
  have hvy := opnd_ok H y hy
  simp only [runAct, bnd, M.pure] at hr ⊢
  have hz : noSpare e x = true → opnd e x = .sl [] → ∃ a0, a.eval x = .slice a0 0 0 := by
    intro hz hX
    unfold noSpare at hz
    split at hz
    · rename_i s
      have hs1 := hx s rfl
      have hs2 := H.slots s hs1
      split at hz
      · rename_i g hg
        split at hz
        · rename_i hal
          obtain ⟨a0, len, cap, e1, e2, e3, e4⟩ := H.free g none hal
          have e5 := H.grps s g none hs1 hg hal
          have e6 : a.eval (.tmp s) = γ g := e5
          rw [hX] at hvx
          simp only [VR] at hvx
          obtain ⟨a1, cap1, f1, f2, f3, _⟩ := hvx
          rw [e6, e1] at f1
          cases f1
          rcases e4 with e4 | ⟨sz, _, _, _, e4, _⟩
          · simp only [List.length_nil] at e4
            subst e4
            exact ⟨a0, by rw [e6, e1]; rfl⟩
          · cases e4
        · cases hz
      · cases hz
    · cases hz
  generalize noSpare e x = zz at hr hz ⊢
  generalize hX : opnd e x = X at hr hvx hz ⊢
  unfold appH at hr ⊢
  cases ht : cx.T t with
  | none => rw [ht] at hr; exact absurd rfl hr
  | some ti =>
    rw [ht] at hr
    simp only at hr ⊢
    cases hk : ti.kind <;> rw [hk] at hr <;> simp only at hr ⊢ <;> (try exact absurd rfl hr)
    rename_i el
    cases hei : cx.T el with
    | none => rw [hei] at hr; exact absurd rfl hr
    | some ei =>
      rw [hei] at hr
      simp only at hr ⊢
      cases hels : elsOf (opnd e y) with
      | none => rw [hels] at hr; exact absurd rfl hr
      | some bs =>
        rw [hels] at hr
        simp only at hr ⊢
        cases hc : (okSz ei.size bs && decide (0 < ei.bytes) && decide (0 < ei.size) && strOk (opnd e y) ei.size) with
        | false => rw [hc] at hr; exact absurd rfl hr
        | true =>
          rw [hc] at hr
          simp only [cond_true] at hr ⊢
          simp only [Bool.and_eq_true, decide_eq_true_eq] at hc
          obtain ⟨⟨⟨h1, h2⟩, h3⟩, h4⟩ := hc
          obtain ⟨hlen, news, hflat, hfirst⟩ := src_ok (P := P) H.wf hels hvy h1 (strOk_inv h4)
          obtain ⟨hfl, hfv⟩ := flat_of_FlatEls hflat h1
          have hfirst' : ∀ w' : World, (∀ a : Addr, w'.cell? a = w.cell? a) → (Builtin.firstCells ei.size bs.length (a.eval y)).run P w' = .ok news.toArray w' := fun w' hw' =>
            hfirst w' (fun b o x hx => by rw [hw']; exact H.wf b o x hx)
          have hna : ei.agg = false → ei.size = 1 := by
            intro hag
            obtain ⟨ii, _, zz, _, _, _, hzs, hsz, _, _, _, _, _, _, _, hnn⟩ := (hT.get hei).ex
            have hz1 : zz.cells.size = 1 := by cases zz <;> first | rfl | exact absurd rfl (hnn hag _)
            omega
          by_cases hXs : X = .sl [] ∧ zz = true
          · obtain ⟨rfl, hzz⟩ := hXs
            subst hzz
            simp only [cond_true] at hr ⊢
            obtain ⟨a0, hvx0⟩ := hz rfl rfl
            have hvr := hvx
            replace hvx := hvx0
            cases hbe : bs.isEmpty with
            | true =>
              have hbs : bs = [] := by simpa using hbe
              subst hbs
              simp only [cond_true]
              obtain ⟨v, w', hrun, hA⟩ := append_raw (ty := o.type) hT ht hk hei hu (n0 := 0) (olds := []) ⟨a0, 0, hvx⟩ hlen hfirst' (fun w' _ => by rw [hvx]; cases a0 with | none => simp [Builtin.firstCells] | some q => exact run_firstCells_some w' _ 0 q 0 0 [] (by simp) (fun j x hx => by simp at hx)) (by simp) hflat.1 hflat.2.2 (by simp) h2
                (by rw [hvx]; exact ⟨a0, 0, 0, rfl, Nat.le_refl _, fun _ => rfl, .inl rfl⟩)
              cases hA with
              | same _ =>
                exact After.val (append_exec ho hb hts hxs hrun) (Sat.up ⟨S, β, γ, lam, ω, H.setV hd hvr⟩)
              | place _ _ _ _ _ _ _ _ hn => exact absurd rfl hn
              | fresh _ _ _ _ _ _ hn => exact absurd rfl hn
            | false =>
              rw [hbe] at hr
              simp only [cond_false] at hr ⊢
              cases hby : decide (bs.length * ei.bytes ≤ 140737488355328) with
              | false => rw [hby] at hr; exact absurd rfl hr
              | true =>
                simp only [cond_true]
                have hne : bs.length ≠ 0 := by
                  intro h0
                  have := List.eq_nil_of_length_eq_zero h0
                  subst this
                  simp at hbe
                obtain ⟨v, w', hrun, hA⟩ := append_raw (ty := o.type) hT ht hk hei hu (n0 := 0) (olds := []) ⟨a0, 0, hvx⟩ hlen hfirst' (fun w' _ => by rw [hvx]; cases a0 with | none => simp [Builtin.firstCells] | some q => exact run_firstCells_some w' _ 0 q 0 0 [] (by simp) (fun j x hx => by simp at hx)) (by simp) hflat.1 hflat.2.2 (by simpa using hby) h2
                  (by rw [hvx]; exact ⟨a0, 0, 0, rfl, Nat.le_refl _, fun _ => rfl, .inl rfl⟩)
                cases hA with
                | same h0 => exact absurd h0 hne
                | place b off cap z hv _ hlt _ _ => rw [hvx] at hv; cases hv; omega
                | fresh z te cap hlt hzc hzr hn =>
                  obtain ⟨ω', F, hnew, hext⟩ := (H.drew).newH z te (cs := bs.flatMap acells) (by
                    refine .of_get ?_ fun i q v hq hv => ?_
                    · have : bs.length * ei.size ≤ cap * ei.size := Nat.mul_le_mul_right _ (by omega)
                      rw [List.length_take]
                      apply Nat.min_eq_left
                      have hz' : z.toList.length = cap * ei.size := by simpa using hzc
                      have hfl' : (bs.flatMap acells).length = bs.length * ei.size := hfl
                      rw [hz', hfl']
                      exact this
                    · obtain ⟨v', h1', h2'⟩ := hfv.get hq
                      have := hzr i v' (by simpa using h1')
                      rw [List.getElem?_take] at hv
                      split at hv
                      · rw [Array.getElem?_toList, this] at hv; cases hv; exact h2'
                      · simp at hv) (fun t ht => absurd ht (nob_okSz h1 t))
                  have hnew' : (β ++ [(w.drew.heap.size, z.size)])[h.length]? = some (w.heap.size, z.size) := hnew
                  refine After.val (append_exec ho hb hts hxs hrun) (Sat.up ⟨_, _, γ, lam, ω', F.setV hd ?_⟩)
                  simp only [VR]
                  have hz0 : z.size ≠ 0 := by
                    have : 0 < cap * ei.size := Nat.mul_pos (by omega) h3
                    omega
                  exact .inl ⟨(w.heap.size, z.size), cap, hnew', hz0, by simp, by omega, by simp [hzc]⟩
          by_cases hXn : X = .hn
          · subst hXn
            simp only at hr ⊢
            simp only [VR] at hvx
            cases hbe : bs.isEmpty with
            | true =>
              have hbs : bs = [] := by simpa using hbe
              subst hbs
              simp only [cond_true]
              obtain ⟨v, w', hrun, hA⟩ := append_raw (ty := o.type) hT ht hk hei hu (n0 := 0) (olds := []) ⟨none, 0, hvx⟩ hlen hfirst' (fun w' _ => by rw [hvx]; simp [Builtin.firstCells]) (by simp) hflat.1 hflat.2.2 (by simp) h2
                (by rw [hvx]; exact ⟨none, 0, 0, rfl, Nat.le_refl _, fun _ => rfl, .inl rfl⟩)
              cases hA with
              | same _ =>
                exact After.val (append_exec ho hb hts hxs hrun) (Sat.up ⟨S, β, γ, lam, ω, H.setV hd (by simp only [VR]; exact hvx)⟩)
              | place _ _ _ _ _ _ _ _ hn => exact absurd rfl hn
              | fresh _ _ _ _ _ _ hn => exact absurd rfl hn
            | false =>
              rw [hbe] at hr
              simp only [cond_false] at hr ⊢
              cases hby : decide (bs.length * ei.bytes ≤ 140737488355328) with
              | false => rw [hby] at hr; exact absurd rfl hr
              | true =>
                simp only [cond_true]
                have hne : bs.length ≠ 0 := by
                  intro h0
                  have := List.eq_nil_of_length_eq_zero h0
                  subst this
                  simp at hbe
                obtain ⟨v, w', hrun, hA⟩ := append_raw (ty := o.type) hT ht hk hei hu (n0 := 0) (olds := []) ⟨none, 0, hvx⟩ hlen hfirst' (fun w' _ => by rw [hvx]; simp [Builtin.firstCells]) (by simp) hflat.1 hflat.2.2 (by simpa using hby) h2
                  (by rw [hvx]; exact ⟨none, 0, 0, rfl, Nat.le_refl _, fun _ => rfl, .inl rfl⟩)
                cases hA with
                | same h0 => exact absurd h0 hne
                | place b off cap z hv _ _ _ _ => rw [hvx] at hv; cases hv
                | fresh z te cap hlt hzc hzr hn =>
                  obtain ⟨ω', F, hnew, hext⟩ := (H.drew).newH z te (cs := bs.flatMap acells) (by
                    refine .of_get ?_ fun i q v hq hv => ?_
                    · have : bs.length * ei.size ≤ cap * ei.size := Nat.mul_le_mul_right _ (by omega)
                      rw [List.length_take]
                      apply Nat.min_eq_left
                      have hz' : z.toList.length = cap * ei.size := by simpa using hzc
                      have hfl' : (bs.flatMap acells).length = bs.length * ei.size := hfl
                      rw [hz', hfl']
                      exact this
                    · obtain ⟨v', h1', h2'⟩ := hfv.get hq
                      have := hzr i v' (by simpa using h1')
                      rw [List.getElem?_take] at hv
                      split at hv
                      · rw [Array.getElem?_toList, this] at hv; cases hv; exact h2'
                      · simp at hv) (fun t ht => absurd ht (nob_okSz h1 t))
                  have hnew' : (β ++ [(w.drew.heap.size, z.size)])[h.length]? = some (w.heap.size, z.size) := hnew
                  refine After.val (append_exec ho hb hts hxs hrun) (Sat.up ⟨_, _, γ, lam, ω', F.setV hd ?_⟩)
                  simp only [VR]
                  have hz0 : z.size ≠ 0 := by
                    have : 0 < cap * ei.size := Nat.mul_pos (by omega) h3
                    omega
                  exact .inl ⟨(w.heap.size, z.size), cap, hnew', hz0, by simp, by omega, by simp [hzc]⟩
          · -- a row of the heap
            cases X with
            | hs l off len sz ag =>
              cases off with
              | succ k => exact absurd rfl hr
              | zero =>
                simp only at hr ⊢
                cases hcs : h[l]? with
                | none => rw [hcs] at hr; exact absurd rfl hr
                | some cs =>
                  rw [hcs] at hr
                  simp only at hr ⊢
                  cases hc2 : (sz == ei.size && ag == ei.agg && cs.all okCell && decide (len * sz ≤ cs.length) && decide (0 < cs.length) && decide ((len + bs.length) * ei.bytes ≤ 140737488355328)) with
                  | false => rw [hc2] at hr; exact absurd rfl hr
                  | true =>
                    simp only [cond_true]
                    simp only [Bool.and_eq_true, decide_eq_true_eq, beq_iff_eq] at hc2
                    obtain ⟨⟨⟨⟨⟨rfl, rfl⟩, k3⟩, k4⟩, k5⟩, k6⟩ := hc2
                    have hvx0 := hvx
                    have hne : cs ≠ [] := by
                      rintro rfl
                      simp at k5
                    have hl : l < h.length := by
                      rcases Nat.lt_or_ge l h.length with h' | h'
                      · exact h'
                      · rw [List.getElem?_eq_none h'] at hcs; simp at hcs
                    simp only [VR] at hvx
                    rcases hvx with ⟨⟨b, nb⟩, cap, hβ, hb0, hvx, hlc, hcn⟩ | ⟨h00, q, hvx⟩
                    · obtain ⟨z, j1, j2, j3, j4, j5⟩ := H.heap.cells hcs hne hβ hb0
                      rw [hβ] at j1
                      simp only [Option.some.injEq, Prod.mk.injEq, true_and] at j1
                      subst j1
                      have hzs : cs.length ≤ z.size := by have := j4.length; simp at this; omega
                      have hol : (z.toList.take (len * ei.size)).length = len * ei.size := by simp; omega
                      have j6 : VRs S β (cs.take (len * ei.size)) (z.toList.take (len * ei.size)) := by
                        have := j4.take (len * ei.size)
                        rw [List.take_take, Nat.min_eq_left k4] at this
                        exact this
                      have hcl : (cs.take (len * ei.size)).length = len * ei.size := by simp; omega
                      have hold : ∀ w' : World, (∀ a : Addr, w'.cell? a = w.cell? a) → (Builtin.firstCells ei.size len (a.eval x)).run P w' = .ok (z.toList.take (len * ei.size)).toArray w' := fun w' hw' => by
                        rw [hvx]
                        refine run_firstCells_some w' ei.size len ⟨b, 0, none⟩ len cap _ hol fun j q hq => ?_
                        rw [addr_add, Nat.zero_add, hw', j2.cell]
                        rw [List.getElem?_take] at hq
                        split at hq
                        · simpa using hq
                        · simp at hq
                      have hroom : RoomOf w ei.size (a.eval x) := ⟨_, len, cap, hvx, hlc, (fun h => by cases h), .inr ⟨b, 0, z, rfl, j2, hcn⟩⟩
                      obtain ⟨v, w', hrun, hA⟩ := append_raw (ty := o.type) hT ht hk hei hu (n0 := len) (olds := z.toList.take (len * ei.size)) ⟨_, cap, hvx⟩ hlen hfirst' hold hol hflat.1 hflat.2.2 k6 h2 hroom
                      have hexec := append_exec ho hb hts hxs hrun
                      cases hA with
                      | same h0 =>
                        have hbs : bs = [] := List.eq_nil_of_length_eq_zero h0
                        subst hbs
                        simp only [List.isEmpty_nil, cond_true]
                        exact After.val hexec (Sat.up ⟨S, β, γ, lam, ω, H.setV hd hvx0⟩)
                      | place b2 off2 cap2 z2 hv2 hr2 hlt2 hc2' hn2 =>
                        have hbe : bs.isEmpty = false := by cases bs <;> simp_all
                        rw [hbe]
                        simp only [cond_false]
                        rw [hvx] at hv2
                        simp only [Value.slice.injEq, Option.some.injEq, Addr.mk.injEq] at hv2
                        obtain ⟨⟨rfl, rfl, _⟩, _, rfl⟩ := hv2
                        cases j2.inj hr2
                        have hnl := hflat.1
                        have hle : (len + bs.length) * ei.size ≤ cap * ei.size := Nat.mul_le_mul_right _ hlt2
                        rw [Nat.add_mul] at hle
                        have hysz : (z.toList.take (0 + len * ei.size) ++ news ++ z.toList.drop (0 + len * ei.size + news.length)).toArray.size = z.size := by simp; omega
                        have hyv : VRs S β (cs.take (len * ei.size) ++ bs.flatMap acells) ((z.toList.take (0 + len * ei.size) ++ news ++ z.toList.drop (0 + len * ei.size + news.length)).toArray.toList.take (cs.take (len * ei.size) ++ bs.flatMap acells).length) := by
                          have hl1 : (z.toList.take (0 + len * ei.size) ++ news).length = (cs.take (len * ei.size) ++ bs.flatMap acells).length := by
                            rw [List.length_append, List.length_append, Nat.zero_add, hol, hcl, hfl, hnl]
                          show VRs S β _ (List.take _ (z.toList.take (0 + len * ei.size) ++ news ++ z.toList.drop (0 + len * ei.size + news.length)))
                          rw [List.take_left' hl1, Nat.zero_add]
                          exact j6.append hfv
                        have hne2 : cs.take (len * ei.size) ++ bs.flatMap acells ≠ [] := by
                          intro h0
                          have h1' := (List.append_eq_nil_iff.1 h0).2
                          rw [h1'] at hfl
                          have : 0 < bs.length * ei.size := Nat.mul_pos (Nat.pos_of_ne_zero fun h => by rw [List.eq_nil_of_length_eq_zero h] at hbe; cases hbe) h3
                          rw [List.length_nil] at hfl
                          omega
                        have hnb : ∀ t, ¬ InTag t (cs.take (len * ei.size) ++ bs.flatMap acells) := fun t ht => by
                          rcases ht.append with ht | ht
                          · exact nob_cells k3 t (ht.mono fun a => List.mem_of_mem_take)
                          · exact nob_okSz h1 t ht
                        have F1 := H.turnH hcs hne ⟨_, hβ⟩ j2 hysz hyv (fun t ht => absurd ht (hnb t))
                        have hcs1 : (h.set l (cs.take (len * ei.size) ++ bs.flatMap acells))[l]? = some (cs.take (len * ei.size) ++ bs.flatMap acells) := by simp [hl]
                        obtain ⟨ω', F2, hnew, hext⟩ := F1.moveH hcs1 hne2 ⟨_, hβ⟩ j2.setRow hyv (fun t ht => ht)
                        have hset : (h.set l (cs.take (len * ei.size) ++ bs.flatMap acells)).set l [] = h.set l [] := by simp
                        rw [hset] at F2
                        rw [List.length_set] at hnew
                        refine After.val hexec (Sat.up ⟨_, _, γ, lam, ω', F2.setV hd ?_⟩)
                        simp only [VR]
                        exact .inl ⟨_, cap, hnew, by simp only; rw [hysz]; exact hb0, rfl, hlt2, by simp only; rw [hysz]; exact hcn⟩
                      | fresh z2 te cap2 hlt2 hzc hzr hn2 =>
                        have hbe : bs.isEmpty = false := by cases bs <;> simp_all
                        rw [hbe]
                        simp only [cond_false]
                        have F1 := (H.drew).killH l
                        obtain ⟨ω', F2, hnew, hext⟩ := F1.newH z2 te (cs := cs.take (len * ei.size) ++ bs.flatMap acells) (by
                          refine .of_get ?_ fun i q v hq hv => ?_
                          · have : (len + bs.length) * ei.size ≤ cap2 * ei.size := Nat.mul_le_mul_right _ hlt2
                            rw [Nat.add_mul] at this
                            rw [List.length_take, List.length_append, hcl, hfl]
                            apply Nat.min_eq_left
                            have hz' : z2.toList.length = cap2 * ei.size := by simpa using hzc
                            omega
                          · obtain ⟨v', h1', h2'⟩ := (j6.append hfv).get hq
                            have := hzr i v' h1'
                            rw [List.getElem?_take] at hv
                            split at hv
                            · rw [Array.getElem?_toList, this] at hv; cases hv; exact h2'
                            · simp at hv) (fun t ht => absurd ht (fun ht => by
                          rcases ht.append with ht | ht
                          · exact nob_cells k3 t (ht.mono fun a => List.mem_of_mem_take)
                          · exact nob_okSz h1 t ht))
                        rw [List.length_set] at hnew
                        have hnew' : (β ++ [(w.drew.heap.size, z2.size)])[h.length]? = some (w.heap.size, z2.size) := hnew
                        refine After.val hexec (Sat.up ⟨_, _, γ, lam, ω', F2.setV hd ?_⟩)
                        simp only [VR]
                        have hz0 : z2.size ≠ 0 := by
                          have : 0 < cap2 * ei.size := Nat.mul_pos (by omega) h3
                          omega
                        exact .inl ⟨(w.heap.size, z2.size), cap2, hnew', hz0, rfl, hlt2, by simp [hzc]⟩
                    · subst h00
                      obtain ⟨v, w', hrun, hA⟩ := append_raw (ty := o.type) hT ht hk hei hu (n0 := 0) (olds := []) ⟨some q, 0, hvx⟩ hlen hfirst' (fun w' _ => by rw [hvx]; exact run_firstCells_some w' _ 0 q 0 0 [] (by simp) (fun j x hx => by simp at hx)) (by simp) hflat.1 hflat.2.2 k6 h2
                        (by rw [hvx]; exact ⟨some q, 0, 0, rfl, Nat.le_refl _, fun _ => rfl, .inl rfl⟩)
                      have hexec := append_exec ho hb hts hxs hrun
                      cases hA with
                      | same h0 =>
                        have hbs : bs = [] := List.eq_nil_of_length_eq_zero h0
                        subst hbs
                        simp only [List.isEmpty_nil, cond_true]
                        exact After.val hexec (Sat.up ⟨S, β, γ, lam, ω, H.setV hd hvx0⟩)
                      | place b off cap z hv _ hlt _ hn =>
                        rw [hvx] at hv
                        cases hv
                        have : bs.length ≠ 0 := hn
                        omega
                      | fresh z2 te cap2 hlt2 hzc hzr hn2 =>
                        have hbe : bs.isEmpty = false := by cases bs <;> simp_all
                        rw [hbe]
                        simp only [cond_false, Nat.zero_mul, List.take_zero, List.nil_append]
                        have F1 := (H.drew).killH l
                        obtain ⟨ω', F2, hnew, hext⟩ := F1.newH z2 te (cs := bs.flatMap acells) (by
                          refine .of_get ?_ fun i q v hq hv => ?_
                          · have : bs.length * ei.size ≤ cap2 * ei.size := Nat.mul_le_mul_right _ (by omega)
                            rw [List.length_take, hfl]
                            apply Nat.min_eq_left
                            have hz' : z2.toList.length = cap2 * ei.size := by simpa using hzc
                            omega
                          · obtain ⟨v', h1', h2'⟩ := hfv.get hq
                            have := hzr i v' (by simpa using h1')
                            rw [List.getElem?_take] at hv
                            split at hv
                            · rw [Array.getElem?_toList, this] at hv; cases hv; exact h2'
                            · simp at hv) (fun t ht => absurd ht (nob_okSz h1 t))
                        rw [List.length_set] at hnew
                        have hnew' : (β ++ [(w.drew.heap.size, z2.size)])[h.length]? = some (w.heap.size, z2.size) := hnew
                        refine After.val hexec (Sat.up ⟨_, _, γ, lam, ω', F2.setV hd ?_⟩)
                        simp only [VR]
                        have hz0 : z2.size ≠ 0 := by
                          have : 0 < cap2 * ei.size := Nat.mul_pos (by omega) h3
                          omega
                        exact .inl ⟨(w.heap.size, z2.size), cap2, hnew', hz0, by simp, by omega, by simp [hzc]⟩
            | sl es =>
              cases es with
              | nil =>
                cases zz with
                | true => exact absurd ⟨rfl, rfl⟩ hXs
                | false => exact absurd rfl hr
              | cons _ _ => exact absurd rfl hr
            | _ => first | exact absurd rfl hXn | exact absurd rfl hr
end
end Go.Av
