/- The abstract evaluator of the model and plain laws, part 2: its soundness holds for every program whose table of types is the evaluator's. No further condition. -/
import Derived.Test.YteemeakjlfnapaaGreatDoorLa

/- Local memory that becomes immutable; the abstract heap. No condition. -/
namespace Go.Av
variable [Dr]
section
variable {c : Entry} {N : Nat} {U : Nat → Prop} {e : Env} {h : Hp} {a : Act} {w : World} {S : Stab} {β : List Blk} {γ : Nat → Value} {lam : Nat → Option Nat} {ω : Nat → Owner}
omit [Dr] in
theorem Row.inj {b : Nat} {x y : Array Value} (h : Row w b x) (g : Row w b y) : x = y := by
  obtain ⟨e1, h1⟩ := h
  obtain ⟨e2, h2⟩ := g
  rw [h1] at h2
  simp only [Option.some.injEq, Obj.cells.injEq] at h2
  exact h2.1
theorem FR.storeS (H : FR c N U e h a w S β γ lam ω) {B m p b : Nat} {x : Array Value} {vs : List Value} {cs : List AV} (hp : p < N) (hm : lbSize e.lb B = some m) (hvs : vs.length = m)
    (hlam : lam B = some b) (hrow : Row w b x) (hcs : VRs S β cs vs) (hslot : a.tmps.getD p undef = .pointer (some ⟨b, 0, none⟩)) (u : Ent) :
    ∃ S' ω', S.le S' ∧ FR c N U (e.upd none { ent := u, ls := [(p, ⟨.val (.ip cs), none⟩)], unlb := some B }) h a (w.setRow b (vs ++ x.toList.drop vs.length).toArray) S' β γ lam ω' := by
  obtain ⟨hB1, hB2, hB3, b', x', h4, h5, h6, h7, h8⟩ := H.lblk B m hm
  rw [hlam] at h4
  cases h4
  cases h5.inj hrow
  have hN := H.tsz.2
  have hy : ∀ i, i < m → (vs ++ x.toList.drop vs.length).toArray[i]? = vs[i]? := fun i hi => by
    simp only [List.getElem?_toArray]
    rw [List.getElem?_append_left (by omega)]
  have hle : S.le (S.withRowTo b m (vs ++ x.toList.drop vs.length).toArray) := fun k o v hv => by
    unfold Stab.withRowTo
    split
    · rename_i hk; subst hk; rw [h7] at hv; simp at hv
    · exact hv
  have hSb : ∀ o v, vs[o]? = some v → S.withRowTo b m (vs ++ x.toList.drop vs.length).toArray b o = some v := fun o v hv => by
    have ho : o < m := by
      rcases Nat.lt_or_ge o vs.length with h | h
      · omega
      · rw [List.getElem?_eq_none h] at hv; simp at hv
    unfold Stab.withRowTo
    rw [if_pos rfl, if_pos ho, hy o ho, hv]
  have hSo : ∀ k, k ≠ b → ∀ o, S.withRowTo b m (vs ++ x.toList.drop vs.length).toArray k o = S k o := fun k hk o => by
    unfold Stab.withRowTo; rw [if_neg hk]
  have hωb : ∀ k, ω k ≠ .loc B → k ≠ b := fun k hk => by rintro rfl; exact hk h6
  have hother : ∀ k, ω k ≠ .loc B → (w.setRow b (vs ++ x.toList.drop vs.length).toArray).heap[k]? = w.heap[k]? := fun k hk => setRow_old w b _ (hωb k hk)
  have hω : ∀ k, ω k ≠ .no → ω k ≠ .loc B → setO ω b .no k = ω k := fun k _ hk => by unfold setO; rw [if_neg (hωb k hk)]
  have hget : ∀ t', (e.upd none { ent := u, ls := [(p, ⟨.val (.ip cs), none⟩)], unlb := some B }).get t' = if p = t' then ⟨.val (.ip cs), none⟩ else e.get t' := by
    intro t'
    rw [get_upd]
    simp only [reduceCtorEq, if_false, List.cons_append, List.nil_append, lookE_cons]
    rfl
  have hlb : (e.upd none { ent := u, ls := [(p, ⟨.val (.ip cs), none⟩)], unlb := some B }).lb = dropB e.lb B := rfl
  have hal : (e.upd none { ent := u, ls := [(p, ⟨.val (.ip cs), none⟩)], unlb := some B }).al = e.al := rfl
  refine ⟨_, setO ω b .no, hle, ?_, H.gro.trans (Gro.setRow hrow _), fun k hk hE => ?_, Stab.le_trans H.le hle, H.ext, H.hlen, ?_, H.tsz, ?_, ?_, ?_, ?_, ?_, ?_⟩
  · intro k o v hv
    by_cases hk : k = b
    · subst hk
      rw [hrow.setRow.cell]
      unfold Stab.withRowTo at hv
      rw [if_pos rfl] at hv
      split at hv
      · exact hv
      · simp at hv
    · rw [hSo k hk] at hv
      rw [cell_of_heap (setRow_old w b _ hk)]
      exact H.wf k o v hv
  · have hkb : k ≠ b := by
      rintro rfl
      have := (H.mine k (by rw [h6]; simp)).1.low
      rcases this with h | h
      · exact hE h
      · omega
    have := H.keep k hk hE
    exact ⟨by rw [setRow_old w b _ hkb]; exact this.1, fun o => by rw [hSo k hkb]; exact this.2 o⟩
  · exact H.heap.rows hle (Ext.refl β) H.hlen fun l cs' hl _ => .inl ⟨hl, fun k _ ho => by
      have hk : ω k ≠ .loc B := by rw [ho]; simp
      exact ⟨by rw [hω k (by rw [ho]; simp) hk]; exact ho, hother k hk, fun o h => by rw [hSo k (hωb k hk)]; exact h⟩⟩
  · intro t' ht'
    rw [hget]
    split
    · rename_i hpt
      subst hpt
      rw [hslot]
      simp only [SlotR, VR]
      exact ⟨b, 0, vs, rfl, hcs.mono hle (Ext.refl β), fun j v hj => by rw [Nat.zero_add]; exact hSb j v hj⟩
    · have := H.slots t' ht'
      cases hv : (e.get t').v with
      | val av => rw [hv] at this; exact VR.mono hle (Ext.refl β) _ _ this
      | loc B off => rw [hv] at this; exact this
  · intro t' g z ht' hg hz
    rw [hget] at hg
    split at hg
    · simp at hg
    · exact H.grps t' g z ht' hg hz
  · intro B' n' hB'
    rw [hlb, lbSize_drop] at hB'
    split at hB'
    · simp at hB'
    · rename_i hBB
      obtain ⟨k1, k2, k3, b', y, k4, k5, k6, k7, k8⟩ := H.lblk B' n' hB'
      have hk : ω b' ≠ .loc B := by rw [k6]; simp only [ne_eq, Owner.loc.injEq]; exact fun h => hBB h.symm
      refine ⟨k1, k2, k3, b', y, k4, k5.of_eq (hother b' hk), by rw [hω b' (by rw [k6]; simp) hk]; exact k6, fun o => by rw [hSo b' (hωb b' hk)]; exact k7 o, fun i hi => ?_⟩
      rw [hget, if_neg (by omega)]
      obtain ⟨v, a', g1, g2, g3, g4⟩ := k8 i hi
      exact ⟨v, a', g1, g2, VR.mono hle (Ext.refl β) _ _ g3, g4⟩
  · intro g z hg
    obtain ⟨a', len, cap, g1, g2, g3, g4⟩ := H.free g z hg
    refine ⟨a', len, cap, g1, g2, g3, g4.imp id ?_⟩
    rintro ⟨sz, k, off, y, k1, k2, k3, k4, k5, k6⟩
    have hk : ω k ≠ .loc B := by rw [k5]; simp
    exact ⟨sz, k, off, y, k1, k2, k3.of_eq (hother k hk), k4, by rw [hω k (by rw [k5]; simp) hk]; exact k5, fun o ho => by rw [hSo k (hωb k hk)]; exact k6 o ho⟩
  · intro k hk
    unfold setO at hk
    split at hk
    · exact absurd rfl hk
    · rename_i hkk; exact ⟨(H.mine k hk).1.of_eq (by unfold setO; rw [if_neg hkk]), by simpa using (H.mine k hk).2⟩
  · refine ⟨fun t' g hg => ?_, H.used.2⟩
    rw [hget] at hg
    split at hg
    · simp at hg
    · exact H.used.1 t' g hg
theorem FR.newH (H : FR c N U e h a w S β γ lam ω) (x : Array Value) (t : TypeId) {cs : List AV} (hcs : VRs S β cs (x.toList.take cs.length)) (htag : ∀ t', InTag t' cs → t' = t) :
    ∃ ω', FR c N U e (h ++ [cs]) a (w.alloc (.cells x t)) S (β ++ [(w.heap.size, x.size)]) γ lam ω' ∧ (β ++ [(w.heap.size, x.size)])[h.length]? = some (w.heap.size, x.size) ∧ Ext β (β ++ [(w.heap.size, x.size)]) := by
  have H2 := H.alloc x t
  have hext : Ext β (β ++ [(w.heap.size, x.size)]) := fun l b hb => by
    have : l < β.length := by
      rcases Nat.lt_or_ge l β.length with h | h
      · exact h
      · rw [List.getElem?_eq_none h] at hb; simp at hb
    rw [List.getElem?_append_left this]; exact hb
  have hnew : (β ++ [(w.heap.size, x.size)])[h.length]? = some (w.heap.size, x.size) := by rw [← H.hlen]; simp
  have hωn : ω w.heap.size = .no := by
    cases ho : ω w.heap.size with
    | no => rfl
    | _ => have := (H.mine w.heap.size (by rw [ho]; simp)).2; omega
  have hω : ∀ b, ω b ≠ .no → setO ω w.heap.size (.heap h.length) b = ω b := fun b hb => by
    unfold setO; rw [if_neg]; rintro rfl; exact hb hωn
  refine ⟨setO ω w.heap.size (.heap h.length), ⟨H2.wf, H2.gro, H2.keep, H2.le, Ext.trans H2.ext hext, by simp [H.hlen], ?_, H2.tsz, ?_, H2.grps, ?_, ?_, ?_, H2.used⟩, hnew, hext⟩
  · refine H2.heap.rows (Stab.le_refl S) hext H2.hlen fun l cs' hl hne => ?_
    rcases Nat.lt_or_ge l h.length with hlt | hge
    · rw [List.getElem?_append_left hlt] at hl
      exact .inl ⟨hl, fun b _ ho => ⟨by rw [hω b (by rw [ho]; simp)]; exact ho, rfl, fun o h => h⟩⟩
    · rw [List.getElem?_append_right hge] at hl
      have hlz : l = h.length := by
        rcases Nat.eq_zero_or_pos (l - h.length) with h0 | h0
        · omega
        · rw [List.getElem?_eq_none (by simp; omega)] at hl; simp at hl
      subst hlz
      simp only [Nat.sub_self, List.getElem?_cons_zero, Option.some.injEq] at hl
      subst hl
      exact .inr ⟨w.heap.size, x, hnew, Row.new w x t, by simp [setO], hcs.mono (Stab.le_refl S) hext, fun o => H.wf.none (Nat.le_refl _) o, fun t' ht' => ⟨x, by rw [htag t' ht']; exact heap_alloc_new w _⟩⟩
  · intro t' ht'
    have := H2.slots t' ht'
    cases hv : (e.get t').v with
    | val av => rw [hv] at this; exact VR.mono (Stab.le_refl S) hext _ _ this
    | loc B off => rw [hv] at this; exact this
  · intro B n hB
    obtain ⟨h1, h2, h3, b, y, h4, h5, h6, h7, h8⟩ := H2.lblk B n hB
    refine ⟨h1, h2, h3, b, y, h4, h5, by rw [hω b (by rw [h6]; simp)]; exact h6, h7, fun i hi => ?_⟩
    obtain ⟨v, a', g1, g2, g3, g4⟩ := h8 i hi
    exact ⟨v, a', g1, g2, VR.mono (Stab.le_refl S) hext _ _ g3, g4⟩
  · intro g z hg
    obtain ⟨a', len, cap, g1, g2, g3, g4⟩ := H2.free g z hg
    refine ⟨a', len, cap, g1, g2, g3, g4.imp id ?_⟩
    rintro ⟨sz, k, off, y, k1, k2, k3, k4, k5, k6⟩
    exact ⟨sz, k, off, y, k1, k2, k3, k4, by rw [hω k (by rw [k5]; simp)]; exact k5, k6⟩
  · intro b hb
    unfold setO at hb
    split at hb
    · rename_i hbb; subst hbb; exact ⟨.inr H.size, by simp⟩
    · rename_i hbb; exact ⟨(H2.mine b hb).1.of_eq (by unfold setO; rw [if_neg hbb]), (H2.mine b hb).2⟩
theorem FR.turnH (H : FR c N U e h a w S β γ lam ω) {l b : Nat} {cs cs' : List AV} {x y : Array Value} (hl : h[l]? = some cs) (hne : cs ≠ []) (hb : ∃ n, β[l]? = some (b, n)) (hrow : Row w b x)
    (hys : y.size = x.size) (hcs : VRs S β cs' (y.toList.take cs'.length)) (htag : ∀ t, InTag t cs' → InTag t cs) :
    FR c N U e (h.set l cs') a (w.setRow b y) S β γ lam ω := by
  obtain ⟨n, hb⟩ := hb
  obtain ⟨h1, h3, h4, h5⟩ := H.heap.of_row hl hne hb hrow
  rw [hb] at h1; cases h1
  have h2 := hrow
  have hlt : l < h.length := by
    rcases Nat.lt_or_ge l h.length with h' | h'
    · exact h'
    · rw [List.getElem?_eq_none h'] at hl; simp at hl
  have hωb : ∀ k, ω k ≠ .heap l → k ≠ b := fun k hk => by rintro rfl; exact hk h3
  have hother : ∀ k, ω k ≠ .heap l → (w.setRow b y).heap[k]? = w.heap[k]? := fun k hk => setRow_old w b _ (hωb k hk)
  refine ⟨wf_setRow H hrow fun o v hv => by rw [h5] at hv; simp at hv, H.gro.trans (Gro.setRow hrow _), fun k hk hE => ?_, H.le, H.ext, by simp [H.hlen], ?_, H.tsz, H.slots, H.grps, ?_, ?_, fun k hk => ⟨(H.mine k hk).1, by simpa using (H.mine k hk).2⟩, H.used⟩
  · have hkb : k ≠ b := by
      rintro rfl
      have := (H.mine k (by rw [h3]; simp)).1.low
      rcases this with h | h
      · exact hE h
      · omega
    have := H.keep k hk hE
    exact ⟨by rw [setRow_old w b _ hkb]; exact this.1, this.2⟩
  · refine H.heap.rows (Stab.le_refl S) (Ext.refl β) H.hlen fun j ds hj hd => ?_
    rw [List.getElem?_set] at hj
    split at hj
    · rename_i hlj
      subst hlj
      simp only [hlt, if_true, Option.some.injEq] at hj; subst hj
      exact .inr ⟨b, y, by rw [hb, hys], hrow.setRow, h3, hcs, h5, fun t ht => by obtain ⟨z, hz⟩ := H.heap.tag hl (htag t ht) hb; exact ⟨y, setRow_heap w b z y t _ hz⟩⟩
    · rename_i hlj
      exact .inl ⟨hj, fun k _ ho => ⟨ho, hother k (by rw [ho]; simp only [ne_eq, Owner.heap.injEq]; exact fun h => hlj h.symm), fun o h => h⟩⟩
  · intro B n hB
    obtain ⟨k1, k2, k3, k, z, k4, k5, k6, k7, k8⟩ := H.lblk B n hB
    exact ⟨k1, k2, k3, k, z, k4, k5.of_eq (hother k (by rw [k6]; simp)), k6, k7, k8⟩
  · intro g z hg
    obtain ⟨a', len, cap, g1, g2, g3, g4⟩ := H.free g z hg
    refine ⟨a', len, cap, g1, g2, g3, g4.imp id ?_⟩
    rintro ⟨sz, k, off, z', k1, k2, k3, k4, k5, k6⟩
    exact ⟨sz, k, off, z', k1, k2, k3.of_eq (hother k (by rw [k5]; simp)), k4, k5, k6⟩
theorem FR.killH (H : FR c N U e h a w S β γ lam ω) (l : Nat) : FR c N U e (h.set l []) a w S β γ lam ω := by
  refine ⟨H.wf, H.gro, H.keep, H.le, H.ext, by simp [H.hlen], ?_, H.tsz, H.slots, H.grps, H.lblk, H.free, H.mine, H.used⟩
  refine H.heap.rows (Stab.le_refl S) (Ext.refl β) H.hlen fun j ds hj hd => ?_
  rw [List.getElem?_set] at hj
  split at hj
  · split at hj
    · simp only [Option.some.injEq] at hj; exact absurd hj.symm hd
    · simp at hj
  · exact .inl ⟨hj, fun k _ ho => ⟨ho, rfl, fun o h => h⟩⟩
theorem FR.moveH (H : FR c N U e h a w S β γ lam ω) {l b : Nat} {cs cs' : List AV} {x : Array Value} (hl : h[l]? = some cs) (hne : cs ≠ []) (hb : ∃ n, β[l]? = some (b, n)) (hrow : Row w b x)
    (hcs : VRs S β cs' (x.toList.take cs'.length)) (htag : ∀ t, InTag t cs' → InTag t cs) :
    ∃ ω', FR c N U e (h.set l [] ++ [cs']) a w S (β ++ [(b, x.size)]) γ lam ω' ∧ (β ++ [(b, x.size)])[h.length]? = some (b, x.size) ∧ Ext β (β ++ [(b, x.size)]) := by
  obtain ⟨n, hb⟩ := hb
  obtain ⟨h1, h3, h4, h5⟩ := H.heap.of_row hl hne hb hrow
  rw [hb] at h1; cases h1
  have h2 := hrow
  have hlt : l < h.length := by
    rcases Nat.lt_or_ge l h.length with h' | h'
    · exact h'
    · rw [List.getElem?_eq_none h'] at hl; simp at hl
  have hext : Ext β (β ++ [(b, x.size)]) := fun l b hb => by
    have : l < β.length := by
      rcases Nat.lt_or_ge l β.length with h | h
      · exact h
      · rw [List.getElem?_eq_none h] at hb; simp at hb
    rw [List.getElem?_append_left this]; exact hb
  have hnew : (β ++ [(b, x.size)])[h.length]? = some (b, x.size) := by rw [← H.hlen]; simp
  have hωb : ∀ k, ω k ≠ .heap l → k ≠ b := fun k hk => by rintro rfl; exact hk h3
  have hω : ∀ k, ω k ≠ .heap l → setO ω b (.heap h.length) k = ω k := fun k hk => by unfold setO; rw [if_neg (hωb k hk)]
  refine ⟨setO ω b (.heap h.length), ⟨H.wf, H.gro, H.keep, H.le, Ext.trans H.ext hext, by simp [H.hlen], ?_, H.tsz, ?_, H.grps, ?_, ?_, ?_, H.used⟩, hnew, hext⟩
  · refine H.heap.rows (Stab.le_refl S) hext H.hlen fun j ds hj hd => ?_
    rcases Nat.lt_or_ge j h.length with hlj | hge
    · rw [List.getElem?_append_left (by simpa using hlj), List.getElem?_set] at hj
      split at hj
      · rename_i hlj2
        subst hlj2
        simp only [Option.some.injEq] at hj; exact absurd hj.symm hd
      · rename_i hne'
        exact .inl ⟨hj, fun k _ ho => ⟨by rw [hω k (by rw [ho]; simp only [ne_eq, Owner.heap.injEq]; exact fun h => hne' h.symm)]; exact ho, rfl, fun o h => h⟩⟩
    · rw [List.getElem?_append_right (by simpa using hge)] at hj
      have hjz : j = h.length := by
        rcases Nat.eq_zero_or_pos (j - h.length) with h0 | h0
        · omega
        · rw [List.getElem?_eq_none (by simp; omega)] at hj; simp at hj
      subst hjz
      simp only [List.length_set, Nat.sub_self, List.getElem?_cons_zero, Option.some.injEq] at hj
      subst hj
      exact .inr ⟨b, x, hnew, hrow, by simp [setO], hcs.mono (Stab.le_refl S) hext, h5, fun t ht => H.heap.tag hl (htag t ht) hb⟩
  · intro t' ht'
    have := H.slots t' ht'
    cases hv : (e.get t').v with
    | val av => rw [hv] at this; exact VR.mono (Stab.le_refl S) hext _ _ this
    | loc B off => rw [hv] at this; exact this
  · intro B n hB
    obtain ⟨k1, k2, k3, k, z, k4, k5, k6, k7, k8⟩ := H.lblk B n hB
    refine ⟨k1, k2, k3, k, z, k4, k5, by rw [hω k (by rw [k6]; simp)]; exact k6, k7, fun i hi => ?_⟩
    obtain ⟨v, a', g1, g2, g3, g4⟩ := k8 i hi
    exact ⟨v, a', g1, g2, VR.mono (Stab.le_refl S) hext _ _ g3, g4⟩
  · intro g z hg
    obtain ⟨a', len, cap, g1, g2, g3, g4⟩ := H.free g z hg
    refine ⟨a', len, cap, g1, g2, g3, g4.imp id ?_⟩
    rintro ⟨sz, k, off, y, k1, k2, k3, k4, k5, k6⟩
    exact ⟨sz, k, off, y, k1, k2, k3, k4, by rw [hω k (by rw [k5]; simp)]; exact k5, k6⟩
  · intro k hk
    unfold setO at hk
    split at hk
    · rename_i hkk; subst hkk; exact ⟨(H.mine k (by rw [h3]; simp)).1.of_not (fun g => by unfold setO; rw [if_pos rfl]; simp), (H.mine k (by rw [h3]; simp)).2⟩
    · rename_i hkk; exact ⟨(H.mine k hk).1.of_eq (by unfold setO; rw [if_neg hkk]), (H.mine k hk).2⟩
end
end Go.Av

/- Appends by value in an abstract frame. No condition. -/
namespace Go.Av
variable [Dr]
section
variable {c : Entry} {N : Nat} {U : Nat → Prop} {e : Env} {h : Hp} {a : Act} {w : World} {S : Stab} {β : List Blk} {γ : Nat → Value} {lam : Nat → Option Nat} {ω : Nat → Owner}
theorem FR.regrp (H : FR c N U e h a w S β γ lam ω) {d : Option Tmp} {r : AV} {v : Value} {gid : Nat} {z : Option Nat} {g0 : Option Nat} {w' : World} {S' : Stab} {ω' : Nat → Owner} (hd : ∀ t, d = some t → t < N)
    (hU : ∀ g, gid ≤ g → g < gid + 1000 → ¬ U g) (hwf : Wf S' w') (hg : Gro w w') (hle : S.le S')
    (hk : ∀ k, k < w.heap.size → (∀ g, g0 = some g → ω k ≠ .grp g) → w'.heap[k]? = w.heap[k]? ∧ ∀ o, S' k o = S k o)
    (hω : ∀ k, ω k ≠ .no → (∀ g, g0 = some g → ω k ≠ .grp g) → ω' k = ω k) (hmine : ∀ b, ω' b ≠ .no → MineAt c ω' b ∧ b < w'.heap.size)
    (hv : VR S' β r v) (hf : FreeR S' w' ω' gid z v) :
    FR c N (fun g => U g ∨ (gid ≤ g ∧ g < gid + 1000)) (e.upd d { Upd.own r gid z with drop := g0 }) h (a.put d v) w' S' β (fun g => if g = gid then v else γ g) lam ω' := by
  have hget : ∀ t, (e.upd d { Upd.own r gid z with drop := g0 }).get t = if d = some t then ⟨.val r, some gid⟩ else e.get t := fun t => by rw [get_upd]; rfl
  have hal : (e.upd d { Upd.own r gid z with drop := g0 }).al = (gid, z) :: dropO e.al g0 := rfl
  have hlb : (e.upd d { Upd.own r gid z with drop := g0 }).lb = e.lb := rfl
  have hdl : ∀ B i : Nat, 1000 ≤ B → d ≠ some (B + i) := fun B i hB hh => by have h1 : B + i < N := hd _ hh; have h2 := H.tsz.2; omega
  have hdrop : ∀ g y, aliveG (dropO e.al g0) g = some y → aliveG e.al g = some y ∧ g0 ≠ some g := by
    intro g y hg
    cases g0 with
    | none => exact ⟨hg, by simp⟩
    | some k =>
      simp only [dropO, aliveG_drop] at hg
      split at hg
      · simp at hg
      · rename_i hkg; exact ⟨hg, by simpa using hkg⟩
  have hne : ∀ t g, (e.get t).g = some g → g ≠ gid := fun t g hg hh => hU g (by omega) (by omega) (H.used.1 t g hg)
  have hna : ∀ g y, aliveG e.al g = some y → g ≠ gid := fun g y hg hh => hU g (by omega) (by omega) (H.used.2 g y hg)
  have halv : ∀ g y, g ≠ gid → aliveG ((gid, z) :: dropO e.al g0) g = some y → aliveG e.al g = some y ∧ g0 ≠ some g := fun g y hg hy => by
    rw [aliveG_cons, if_neg (fun h => hg h.symm)] at hy
    exact hdrop g y hy
  have hrow : ∀ {b x}, Row w b x → (∀ g, g0 = some g → ω b ≠ .grp g) → Row w' b x := fun hr hb => hr.of_eq (hk _ hr.lt hb).1
  have hsz := hg.size
  refine ⟨hwf, H.gro.trans hg, fun b hb hE => ?_, Stab.le_trans H.le hle, H.ext, H.hlen, ?_, by rw [tmps_put_size]; exact H.tsz, fun t ht => ?_, fun t g y ht hgg hz => ?_, fun B n hB => ?_, fun g y hg => ?_, hmine, ⟨fun t g hgg => ?_, fun g y hg => ?_⟩⟩
  · have hnb : ∀ g, g0 = some g → ω b ≠ .grp g := fun g _ hbg => by
      have := (H.mine b (by rw [hbg]; simp)).1.low
      rcases this with h | h
      · exact hE h
      · omega
    have h1 := hk b (Nat.lt_of_lt_of_le hb H.size) hnb
    have h2 := H.keep b hb hE
    exact ⟨h1.1.trans h2.1, fun o => (h1.2 o).trans (h2.2 o)⟩
  · exact H.heap.rows hle (Ext.refl β) H.hlen fun l cs hl _ => .inl ⟨hl, fun b hb ho => by
      have hnb : ∀ g, g0 = some g → ω b ≠ .grp g := fun g _ => by rw [ho]; simp
      exact ⟨by rw [hω b (by rw [ho]; simp) hnb]; exact ho, (hk b hb hnb).1, fun o h => by rw [(hk b hb hnb).2]; exact h⟩⟩
  · rw [hget, tmps_put a d v hd H.tsz.1]
    split
    · exact hv
    · have := H.slots t ht
      cases hv : (e.get t).v with
      | val av => rw [hv] at this; exact VR.mono hle (Ext.refl β) _ _ this
      | loc B off => rw [hv] at this; exact this
  · rw [hget] at hgg
    rw [hal] at hz
    rw [tmps_put a d v hd H.tsz.1]
    split at hgg
    · rename_i hdt
      rw [if_pos hdt]
      simp only [Option.some.injEq] at hgg
      simp [← hgg]
    · rename_i hdt
      have hg := hne t g hgg
      rw [if_neg hdt, if_neg hg]
      exact H.grps t g y ht hgg (halv g y hg hz).1
  · rw [hlb] at hB
    obtain ⟨h1, h2, h3, b, x, h4, h5, h6, h7, h8⟩ := H.lblk B n hB
    have hnb : ∀ g, g0 = some g → ω b ≠ .grp g := fun g _ => by rw [h6]; simp
    refine ⟨h1, h2, h3, b, x, h4, hrow h5 hnb, by rw [hω b (by rw [h6]; simp) hnb]; exact h6, fun o => by rw [(hk b h5.lt hnb).2]; exact h7 o, fun i hi => ?_⟩
    rw [hget, if_neg (hdl B i h2)]
    obtain ⟨u, a', g1, g2, g3, g4⟩ := h8 i hi
    refine ⟨u, a', g1, g2, VR.mono hle (Ext.refl β) _ _ g3, fun g y hg hy => ?_⟩
    have hgn := hne _ g hg
    rw [if_neg hgn]
    rw [hal] at hy
    exact g4 g y hg (halv g y hgn hy).1
  · rw [hal] at hg
    by_cases hgg : g = gid
    · subst hgg
      rw [aliveG_cons, if_pos rfl] at hg
      simp only [Option.some.injEq] at hg; subst hg
      simpa using hf
    · simp only [if_neg hgg]
      obtain ⟨h1, h2⟩ := halv g y hgg hg
      obtain ⟨a', len, cap, k1, k2, k3, k4⟩ := H.free g y h1
      refine ⟨a', len, cap, k1, k2, k3, k4.imp id ?_⟩
      rintro ⟨sz, b, off, x, j1, j2, j3, j4, j5, j6⟩
      have hnb : ∀ g', g0 = some g' → ω b ≠ .grp g' := fun g' hg' => by
        rw [j5]
        simp only [ne_eq, Owner.grp.injEq]
        rintro rfl
        exact h2 hg'
      exact ⟨sz, b, off, x, j1, j2, hrow j3 hnb, j4, by rw [hω b (by rw [j5]; simp) hnb]; exact j5, fun o ho => by rw [(hk b j3.lt hnb).2]; exact j6 o ho⟩
  · rw [hget] at hgg
    split at hgg
    · simp only [Option.some.injEq] at hgg; exact .inr (by omega)
    · exact .inl (H.used.1 t g hgg)
  · rw [hal] at hg
    by_cases hgg : g = gid
    · exact .inr (by omega)
    · exact .inl (H.used.2 g y (halv g y hgg hg).1)
omit [Dr] in
theorem els_size {S : Stab} {β : List Blk} {es : List AV} {b off sz sz' : Nat} (h : ElsAt S β es b off sz') (hok : okSz sz es = true) (hne : es ≠ []) : sz' = sz := by
  cases es with
  | nil => exact absurd rfl hne
  | cons x es =>
    simp only [ElsAt] at h
    simp only [okSz, List.all_cons, Bool.and_eq_true] at hok
    obtain ⟨⟨v, hv, hs, _⟩, _⟩ := h
    have := (okEl_ok hok.1 hv).1
    omega
open Classical in
theorem FR.app (H : FR c N U e h a w S β γ lam ω) {d : Option Tmp} {as bs : List AV} {vx v : Value} {w' : World} {gid sz : Nat} {g0 : Option Nat} {z : Option Nat} (hd : ∀ t, d = some t → t < N)
    (hU : ∀ g, gid ≤ g → g < gid + 1000 → ¬ U g) (hx : VR S β (.sl as) vx) (hoa : okSz sz as = true)
    (hfree : (g0 = none ∧ vx = .slice none 0 0) ∨ ∃ g, g0 = some g ∧ FreeR S w ω g z vx) (hz : z = none ∨ z = some sz)
    (happ : Appended S β w sz as bs vx v w') :
    ∃ S' ω', FR c N (fun g => U g ∨ (gid ≤ g ∧ g < gid + 1000)) (e.upd d { Upd.own (.sl (as ++ bs)) gid (some sz) with drop := g0 }) h (a.put d v) w' S' β (fun g => if g = gid then v else γ g) lam ω' := by
  cases happ with
  | same hb =>
    subst hb
    refine ⟨S, fun k => if ∃ g, g0 = some g ∧ ω k = .grp g then .grp gid else ω k, H.regrp hd hU H.wf (Gro.refl _) (Stab.le_refl S) (fun k _ _ => ⟨rfl, fun _ => rfl⟩) ?_ ?_ (by simpa using hx) ?_⟩
    · intro k _ hk
      rw [if_neg]
      rintro ⟨g, h1, h2⟩
      exact hk g h1 h2
    · intro b hb
      (try simp only at hb)
      split at hb
      · rename_i hg
        obtain ⟨g, _, hg⟩ := hg
        exact ⟨.inr ((H.mine b (by rw [hg]; simp)).1.grp hg), (H.mine b (by rw [hg]; simp)).2⟩
      · rename_i hg
        exact ⟨(H.mine b hb).1.of_eq (if_neg hg), (H.mine b hb).2⟩
    · rcases hfree with ⟨_, rfl⟩ | ⟨g, rfl, a', len, cap, h1, h2, h3, h4⟩
      · exact ⟨none, 0, 0, rfl, Nat.le_refl _, fun _ => rfl, .inl rfl⟩
      · refine ⟨a', len, cap, h1, h2, h3, h4.imp id ?_⟩
        rintro ⟨sz', b, off, x, g1, g2, g3, g4, g5, g6⟩
        have : sz' = sz := by rcases hz with rfl | rfl <;> simp_all
        subst this
        exact ⟨sz', b, off, x, rfl, g2, g3, g4, by (try simp only); rw [if_pos ⟨g, rfl, g5⟩], g6⟩
  | place b off cap x cs hv hr hlt hc hb hf =>
    subst hv
    rcases hfree with ⟨_, hcon⟩ | ⟨g, rfl, a', len, cap', h1, h2, h3, h4⟩
    · cases hcon
    · simp only [Value.slice.injEq] at h1
      obtain ⟨rfl, rfl, rfl⟩ := h1
      have hpos : 0 < bs.length := List.length_pos_iff.2 hb
      rcases h4 with h4 | ⟨sz', b', off', x', g1, g2, g3, g4, g5, g6⟩
      · omega
      · have : sz' = sz := by rcases hz with rfl | rfl <;> simp_all
        subst this
        simp only [Option.some.injEq, Addr.mk.injEq] at g2
        obtain ⟨rfl, rfl, _⟩ := g2
        cases hr.inj g3
        have hcl := hf.1
        have hle : (as.length + bs.length) * sz' ≤ cap * sz' := Nat.mul_le_mul_right _ hlt
        rw [Nat.add_mul] at hle
        have hynew : ∀ i, (x.toList.take (off + as.length * sz') ++ cs ++ x.toList.drop (off + as.length * sz' + cs.length)).toArray[i]? =
            if off + as.length * sz' ≤ i ∧ i < off + as.length * sz' + cs.length then cs[i - (off + as.length * sz')]? else x[i]? := by
          intro i
          have htl : (x.toList.take (off + as.length * sz')).length = off + as.length * sz' := by simp; omega
          simp only [List.getElem?_toArray]
          by_cases hi : i < off + as.length * sz'
          · rw [List.append_assoc, List.getElem?_append_left (by omega), List.getElem?_take, if_pos hi, if_neg (by omega)]
            simp
          · by_cases hi2 : i < off + as.length * sz' + cs.length
            · rw [List.append_assoc, List.getElem?_append_right (by omega), htl, List.getElem?_append_left (by omega), if_pos (by omega)]
            · rw [List.getElem?_append_right (by simp; omega), List.getElem?_drop, if_neg (by omega), Array.getElem?_toList]
              congr 1
              simp
              omega
        generalize hy : (x.toList.take (off + as.length * sz') ++ cs ++ x.toList.drop (off + as.length * sz' + cs.length)).toArray = y at hynew
        -- the new stable cells
        refine ⟨fun k o => if k = b ∧ off + as.length * sz' ≤ o ∧ o < off + as.length * sz' + cs.length then cs[o - (off + as.length * sz')]? else S k o, setO ω b (.grp gid), ?_⟩
        have hleS : S.le (fun k o => if k = b ∧ off + as.length * sz' ≤ o ∧ o < off + as.length * sz' + cs.length then cs[o - (off + as.length * sz')]? else S k o) := by
          intro k o v hv
          (try simp only)
          rw [if_neg]
          · exact hv
          · rintro ⟨rfl, h1, _⟩
            rw [g6 o h1] at hv
            simp at hv
        have hysz : y.size = x.size := by
          rw [← hy]
          simp
          omega
        refine H.regrp hd hU (fun k o v hv => ?_) (Gro.setRow hr _) hleS (fun k hk hkg => ?_) (fun k hk hkg => ?_) (fun k hk => ?_) ?_ ?_
        · (try simp only at hv)
          split at hv
          · rename_i hc'
            obtain ⟨rfl, h1, h2⟩ := hc'
            rw [hr.setRow.cell, hynew, if_pos ⟨h1, h2⟩]
            exact hv
          · rename_i hc'
            by_cases hkb : k = b
            · subst hkb
              have hcell := H.wf k o v hv
              rw [hr.cell] at hcell
              rw [hr.setRow.cell, hynew, if_neg (fun h => hc' ⟨rfl, h⟩)]
              exact hcell
            · rw [cell_of_heap (setRow_old w b y hkb)]
              exact H.wf k o v hv
        · have hkb : k ≠ b := by rintro rfl; exact hkg g rfl g5
          exact ⟨setRow_old w b y hkb, fun o => by (try simp only); rw [if_neg (fun h => hkb h.1)]⟩
        · unfold setO
          rw [if_neg]
          rintro rfl
          exact hkg g rfl g5
        · unfold setO at hk
          split at hk
          · rename_i hkb; subst hkb
            have := H.mine k (by rw [g5]; simp)
            exact ⟨.inr (this.1.grp g5), by simpa using this.2⟩
          · rename_i hkb
            have := H.mine k hk
            exact ⟨this.1.of_eq (by unfold setO; rw [if_neg hkb]), by simpa using this.2⟩
        · -- the value
          simp only [VR] at hx ⊢
          obtain ⟨a2, cap2, he, hc2, hn2, hs2⟩ := hx
          simp only [Value.slice.injEq] at he
          obtain ⟨rfl, _, rfl⟩ := he
          refine ⟨some ⟨b, off, none⟩, cap, by simp, by simpa using hlt, (fun h => by cases h), fun q hq => ?_⟩
          simp only [Option.some.injEq] at hq
          subst hq
          obtain ⟨_, sz2, hel⟩ := hs2 _ rfl
          refine ⟨fun _ => rfl, sz', ?_⟩
          have hels : ElsAt S β as b off sz' := by
            by_cases hne : as = []
            · subst hne; simp [ElsAt]
            · have := els_size hel hoa hne
              subst this
              exact hel
          refine ElsAt.append (ElsAt.mono hleS (Ext.refl β) _ _ _ _ hels) (.of_get fun i x' hx' => ?_)
          obtain ⟨v', hv1, hv2, hv3⟩ := hf.2.1 i x' hx'
          refine ⟨v', VR.mono hleS (Ext.refl β) _ _ hv1, hv2, fun j u hu => ?_⟩
          have hcs := hv3 j u (by simpa using hu)
          simp only [List.getElem?_toArray] at hcs
          have hlt' : i * sz' + j < cs.length := by
            rcases Nat.lt_or_ge (i * sz' + j) cs.length with h | h
            · exact h
            · rw [List.getElem?_eq_none h] at hcs; simp at hcs
          (try simp only)
          rw [if_pos ⟨by trivial, by omega, by omega⟩]
          rw [show off + as.length * sz' + i * sz' + j - (off + as.length * sz') = i * sz' + j by omega]
          exact hcs
        · refine ⟨some ⟨b, off, none⟩, as.length + bs.length, cap, rfl, hlt, (fun h => by cases h), .inr ⟨sz', b, off, y, rfl, rfl, hr.setRow, by rw [hysz]; exact hc, by simp [setO], fun o ho => ?_⟩⟩
          (try simp only)
          rw [Nat.add_mul] at ho
          rw [if_neg (by omega)]
          exact g6 o (by omega)
  | fresh x t cap hlt hc hr hb =>
    have H2 := (H.drew).allocS x t ((as ++ bs).length * sz)
    have hsz : w.drew.heap.size = w.heap.size := rfl
    have hωn : ω w.heap.size = .no := by
      cases ho : ω w.heap.size with
      | no => rfl
      | _ => have := (H.mine w.heap.size (by rw [ho]; simp)).2; omega
    have hle : (as.length + bs.length) * sz ≤ cap * sz := Nat.mul_le_mul_right _ hlt
    refine ⟨S.withRowTo w.heap.size ((as ++ bs).length * sz) x, setO ω w.heap.size (.grp gid), H.regrp hd hU H2.wf ((Gro.drew w).trans (Gro.alloc w.drew x t)) ?_ (fun k hk _ => ⟨by rw [alloc_old _ _ (by simpa using hk)]; rfl, fun o => ?_⟩) (fun k hk _ => ?_) (fun k hk => ?_) ?_ ?_⟩
    · intro k o v hv
      unfold Stab.withRowTo
      split
      · rename_i hk; subst hk; rw [H.wf.none (Nat.le_refl _)] at hv; simp at hv
      · exact hv
    · unfold Stab.withRowTo; rw [if_neg (by omega)]
    · unfold setO
      rw [if_neg]
      rintro rfl
      exact hk hωn
    · unfold setO at hk
      split at hk
      · rename_i hkk; subst hkk; exact ⟨.inr H.size, by simp⟩
      · rename_i hkk
        have := H.mine k hk
        exact ⟨this.1.of_eq (by unfold setO; rw [if_neg hkk]), by simp; omega⟩
    · simp only [VR]
      refine ⟨some ⟨w.heap.size, 0, none⟩, cap, by simp, by simpa using hlt, (fun h => by cases h), fun q hq => ?_⟩
      simp only [Option.some.injEq] at hq
      subst hq
      refine ⟨fun _ => rfl, sz, .of_get fun i x' hx' => ?_⟩
      obtain ⟨v', hv1, hv2, hv3⟩ := hr i x' hx'
      have hi : i < (as ++ bs).length := by
        rcases Nat.lt_or_ge i (as ++ bs).length with h | h
        · exact h
        · rw [List.getElem?_eq_none h] at hx'; simp at hx'
      refine ⟨v', VR.mono (fun k o v hv => ?_) (Ext.refl β) _ _ hv1, hv2, fun j u hu => ?_⟩
      · unfold Stab.withRowTo
        split
        · rename_i hk; subst hk; rw [H.wf.none (Nat.le_refl _)] at hv; simp at hv
        · exact hv
      · have hj : j < sz := by
          rcases Nat.lt_or_ge j v'.cells.toList.length with h | h
          · simp [hv2] at h; exact h
          · rw [List.getElem?_eq_none h] at hu; simp at hu
        have hm : (i + 1) * sz ≤ (as ++ bs).length * sz := Nat.mul_le_mul_right _ hi
        rw [Nat.add_mul] at hm
        unfold Stab.withRowTo
        rw [if_pos rfl, if_pos (Nat.lt_of_lt_of_le (show 0 + i * sz + j < i * sz + 1 * sz by omega) hm), Nat.zero_add]
        exact hv3 j u (by simpa using hu)
    · refine ⟨some ⟨w.heap.size, 0, none⟩, as.length + bs.length, cap, rfl, hlt, (fun h => by cases h), .inr ⟨sz, w.heap.size, 0, x, rfl, rfl, Row.new w.drew x t, by omega, by simp [setO], fun o ho => ?_⟩⟩
      unfold Stab.withRowTo
      rw [if_pos rfl, if_neg]
      rw [List.length_append]
      exact Nat.not_lt.2 (by simpa using ho)
end
end Go.Av

/- One operation of the abstract evaluator is right. Conditions: the table of types is the program's; the calls are right. -/
namespace Go.Av
variable [Dr]
def HOwn (β : List Blk) (h : Hp) (b : Nat) : Prop := ∃ (l : Nat) (cs : List AV) (n : Nat), h[l]? = some cs ∧ cs ≠ [] ∧ β[l]? = some (b, n)
def HeapX (S : Stab) (β : List Blk) (w : World) (h : Hp) : Prop := β.length = h.length ∧ ∃ ω, HeapR S β w ω h
def GOK (β : List Blk) (h : Hp) (w : World) : Prop := GOKw w ∧ ∀ b, b < gN → ¬ HOwn β h b
structure Left (E : Nat → Prop) (S : Stab) (β : List Blk) (w : World) (S' : Stab) (β' : List Blk) (w' : World) (h' : Hp) : Prop where
  le : S.le S'
  ext : Ext β β'
  wf : Wf S' w'
  gro : Gro w w'
  keep : ∀ b, b < w.heap.size → ¬ E b → w'.heap[b]? = w.heap[b]? ∧ ∀ o, S' b o = S b o
  heap : HeapX S' β' w' h'
  owned : ∀ b, HOwn β' h' b → E b ∨ w.heap.size ≤ b
theorem Left.size {E : Nat → Prop} {S : Stab} {β : List Blk} {w : World} {S' : Stab} {β' : List Blk} {w' : World} {h' : Hp} (L : Left E S β w S' β' w' h') : w.heap.size ≤ w'.heap.size := L.gro.size
def OwnedR (n0 : Nat) (S' : Stab) (β' : List Blk) (w' : World) (h' : Hp) (sz : Nat) (v : Value) : Prop :=
  ∃ a len cap, v = .slice a len cap ∧ len ≤ cap ∧ (a = none → cap = 0) ∧ (len = cap ∨ ∃ b off x, a = some ⟨b, off, none⟩ ∧ Row w' b x ∧ off + cap * sz ≤ x.size ∧ n0 ≤ b ∧ ¬ HOwn β' h' b ∧
    ∀ o, off + len * sz ≤ o → S' b o = none)
def CPost (own : Option Nat) (S : Stab) (β : List Blk) (h : Hp) (w : World) (r : R AV) (en : Ending) (w' : World) : Prop :=
  match r with
  | .ok rv h' => ∃ S' β' v, en = .returned v ∧ VR S' β' rv v ∧ Left (HOwn β h) S β w S' β' w' h' ∧ ∀ sz, own = some sz → OwnedR w.heap.size S' β' w' h' sz v
  | .pan pv h' => ∃ S' β' v, en = .panicked [{ v, recovered := false }] ∧ VR S' β' pv v ∧ Left (HOwn β h) S β w S' β' w' h'
  | .fail => False
def CallsOK (P : Program) (own : FuncId → Option Nat) (call : FuncId → List AV → M AV) : Prop :=
  ∀ (f : FuncId) (args : List AV) (h : Hp) (S : Stab) (β : List Blk) (w : World) (vs : List Value), call f args h ≠ .fail → GOK β h w → Wf S w → HeapX S β w h → VRs S β args vs →
    Calls P f vs.toArray w (CPost (own f) S β h w (call f args h)) ∧ (P.funcs[f]?).any (fun fn => fn.body.isSome && !(fn.name == "runtime.NumGoroutine")) = true
section
variable {c : Entry} {N : Nat} {U : Nat → Prop} {e : Env} {h : Hp} {a : Act} {w : World} {S : Stab} {β : List Blk} {γ : Nat → Value} {lam : Nat → Option Nat} {ω : Nat → Owner}
theorem FR.hown (H : FR c N U e h a w S β γ lam ω) {b : Nat} (hb : HOwn β h b) : ∃ l n, ω b = .heap l ∧ b < w.heap.size ∧ β[l]? = some (b, n) ∧ ∀ o, S b o = none := by
  obtain ⟨l, cs, n, h1, h2, h3⟩ := hb
  obtain ⟨b', x, k1, k2, k3, k5⟩ := H.heap.own h1 h2
  rw [h3] at k1; cases k1
  exact ⟨l, n, k3, k2, h3, k5⟩
theorem FR.heapX (H : FR c N U e h a w S β γ lam ω) : HeapX S β w h := ⟨H.hlen, ω, H.heap⟩
open Classical in
theorem FR.left (H : FR c N U e h a w S β γ lam ω) {S' : Stab} {β' : List Blk} {w' : World} {h' : Hp} (L : Left (HOwn β h) S β w S' β' w' h') :
    ∃ ω', FR c N U e h' a w' S' β' γ lam ω' ∧ (∀ b, w.heap.size ≤ b → ¬ HOwn β' h' b → ω' b = .no) := by
  obtain ⟨hlen, ω2, hh⟩ := L.heap
  have hnb : ∀ b, ω b ≠ .no → (∀ l, ω b ≠ .heap l) → ¬ HOwn β h b ∧ ¬ HOwn β' h' b ∧ b < w.heap.size := by
    intro b hb hl
    have hlt := (H.mine b hb).2
    have h1 : ¬ HOwn β h b := fun ho => by obtain ⟨l, _, h3, _⟩ := H.hown ho; exact hl l h3
    refine ⟨h1, fun ho => ?_, hlt⟩
    rcases L.owned b ho with h2 | h2
    · exact h1 h2
    · omega
  let ω' : Nat → Owner := fun b => if HOwn β' h' b then ω2 b else match ω b with | .heap _ => .no | o => o
  have hω' : ∀ b, ω b ≠ .no → (∀ l, ω b ≠ .heap l) → ω' b = ω b := by
    intro b hb hl
    obtain ⟨_, h2, _⟩ := hnb b hb hl
    show (if HOwn β' h' b then ω2 b else _) = _
    rw [if_neg h2]
    cases ho : ω b <;> first | rfl | exact absurd ho (hl _)
  have hrow : ∀ {b x}, Row w b x → ω b ≠ .no → (∀ l, ω b ≠ .heap l) → Row w' b x ∧ ∀ o, S' b o = S b o := by
    intro b x hr hb hl
    obtain ⟨h1, _, h3⟩ := hnb b hb hl
    exact ⟨hr.of_eq (L.keep b h3 h1).1, (L.keep b h3 h1).2⟩
  refine ⟨ω', ⟨L.wf, H.gro.trans L.gro, fun b hb hE => ?_, Stab.le_trans H.le L.le, Ext.trans H.ext L.ext, hlen, ?_, H.tsz, ?_, H.grps, ?_, ?_, ?_, H.used⟩, ?_⟩
  · have h1 : ¬ HOwn β h b := fun ho => by
      obtain ⟨l, _, h3, _⟩ := H.hown ho
      rcases (H.mine b (by rw [h3]; simp)).1.low with h | h
      · exact hE h
      · omega
    have h2 := L.keep b (Nat.lt_of_lt_of_le hb H.size) h1
    have h3 := H.keep b hb hE
    exact ⟨h2.1.trans h3.1, fun o => (h2.2 o).trans (h3.2 o)⟩
  · intro l cs hl hne
    have hown : ∀ b n, β'[l]? = some (b, n) → ω2 b = .heap l → ω' b = .heap l := fun b n h1 h3 => by
      show (if HOwn β' h' b then ω2 b else _) = _
      rw [if_pos ⟨l, cs, _, hl, hne, h1⟩]
      exact h3
    rcases hh l cs hl hne with ⟨b, x, h1, h2, h3, h4⟩ | ⟨b, h1, h3, h4⟩
    · exact .inl ⟨b, x, h1, h2, hown b _ h1 h3, h4⟩
    · exact .inr ⟨b, h1, hown b _ h1 h3, h4⟩
  · intro t ht
    have := H.slots t ht
    cases hv : (e.get t).v with
    | val av => rw [hv] at this; exact VR.mono L.le L.ext _ _ this
    | loc B off => rw [hv] at this; exact this
  · intro B n hB
    obtain ⟨k1, k2, k3, b, x, k4, k5, k6, k7, k8⟩ := H.lblk B n hB
    have hr := hrow k5 (by rw [k6]; simp) (by rw [k6]; simp)
    refine ⟨k1, k2, k3, b, x, k4, hr.1, by rw [hω' b (by rw [k6]; simp) (by rw [k6]; simp)]; exact k6, fun o => by rw [hr.2]; exact k7 o, fun i hi => ?_⟩
    obtain ⟨v, a', g1, g2, g3, g4⟩ := k8 i hi
    exact ⟨v, a', g1, g2, VR.mono L.le L.ext _ _ g3, g4⟩
  · intro g z hg
    obtain ⟨a', len, cap, g1, g2, g3, g4⟩ := H.free g z hg
    refine ⟨a', len, cap, g1, g2, g3, g4.imp id ?_⟩
    rintro ⟨sz, b, off, x, k1, k2, k3, k4, k5, k6⟩
    have hr := hrow k3 (by rw [k5]; simp) (by rw [k5]; simp)
    exact ⟨sz, b, off, x, k1, k2, hr.1, k4, by rw [hω' b (by rw [k5]; simp) (by rw [k5]; simp)]; exact k5, fun o ho => by rw [hr.2]; exact k6 o ho⟩
  · intro b hb
    by_cases ho : HOwn β' h' b
    · have hlt : b < w'.heap.size ∧ ∃ l, ω2 b = .heap l := by
        obtain ⟨l, cs, n, h1, h2, h3⟩ := ho
        obtain ⟨b', x, k1, k2, k3, _⟩ := hh.own h1 h2
        rw [h3] at k1; cases k1
        exact ⟨k2, l, k3⟩
      obtain ⟨hlt, l2, hl2⟩ := hlt
      refine ⟨?_, hlt⟩
      rcases L.owned b ho with h1 | h1
      · obtain ⟨l, _, h3, _⟩ := H.hown h1
        refine (H.mine b (by rw [h3]; simp)).1.of_not fun g => ?_
        show (if HOwn β' h' b then ω2 b else _) ≠ _
        rw [if_pos ho, hl2]
        simp
      · exact .inr (Nat.le_trans H.size h1)
    · have hb' : (match ω b with | .heap _ => .no | o => o) ≠ Owner.no := by
        have : ω' b = (match ω b with | .heap _ => .no | o => o) := by
          show (if HOwn β' h' b then ω2 b else _) = _
          rw [if_neg ho]
        rw [← this]; exact hb
      have : ω b ≠ .no := by
        intro hn; rw [hn] at hb'; exact hb' rfl
      exact ⟨(H.mine b this).1.of_eq (hω' b this fun l hl => by rw [hl] at hb'; exact hb' rfl), Nat.lt_of_lt_of_le (H.mine b this).2 L.size⟩
  · intro b hb hn
    show (if HOwn β' h' b then ω2 b else _) = _
    rw [if_neg hn]
    cases ho : ω b with
    | no => rfl
    | heap l => rfl
    | loc B => have := (H.mine b (by rw [ho]; simp)).2; omega
    | grp g => have := (H.mine b (by rw [ho]; simp)).2; omega
end
theorem FR.gok {c : Entry} {N : Nat} {U : Nat → Prop} {e : Env} {h : Hp} {a : Act} {w : World} {S : Stab} {β : List Blk} {γ : Nat → Value} {lam : Nat → Option Nat} {ω : Nat → Owner} (H : FR c N U e h a w S β γ lam ω) : GOK β h w :=
  ⟨H.gokw, fun b hb ho => by
    obtain ⟨l, _, h3, _⟩ := H.hown ho
    rcases (H.mine b (by rw [h3]; simp)).1.low with h | h
    · exact c.gok.2 b hb h
    · have := c.gok.1.lt; omega⟩
def Out (c : Entry) (h' : Hp) (w' : World) (S' : Stab) (β' : List Blk) : Prop := Left c.E c.S c.β c.w S' β' w' h'
theorem FR.out {c : Entry} {N : Nat} {U : Nat → Prop} {e : Env} {h : Hp} {a : Act} {w : World} {S : Stab} {β : List Blk} {γ : Nat → Value} {lam : Nat → Option Nat} {ω : Nat → Owner}
    (H : FR c N U e h a w S β γ lam ω) : Out c h w S β :=
  ⟨H.le, H.ext, H.wf, H.gro, H.keep, H.heapX, fun b hb => by
    obtain ⟨l, _, h3, _⟩ := H.hown hb
    exact (H.mine b (by rw [h3]; simp)).1.low⟩
def Sat (c : Entry) (N : Nat) (U : Nat → Prop) (e : Env) (h : Hp) (a : Act) (w : World) : Prop := ∃ S β γ lam ω, FR c N U e h a w S β γ lam ω
def UG (U : Nat → Prop) (gid : Nat) : Nat → Prop := fun g => U g ∨ (gid ≤ g ∧ g < gid + 1000)
theorem FR.wider {c : Entry} {N : Nat} {U V : Nat → Prop} {e : Env} {h : Hp} {a : Act} {w : World} {S : Stab} {β : List Blk} {γ : Nat → Value} {lam : Nat → Option Nat} {ω : Nat → Owner}
    (H : FR c N U e h a w S β γ lam ω) (hUV : ∀ g, U g → V g) : FR c N V e h a w S β γ lam ω :=
  ⟨H.wf, H.gro, H.keep, H.le, H.ext, H.hlen, H.heap, H.tsz, H.slots, H.grps, H.lblk, H.free, H.mine, ⟨fun t g hg => hUV g (H.used.1 t g hg), fun g z hg => hUV g (H.used.2 g z hg)⟩⟩
theorem Sat.wider {c : Entry} {N : Nat} {U V : Nat → Prop} {e : Env} {h : Hp} {a : Act} {w : World} (H : Sat c N U e h a w) (hUV : ∀ g, U g → V g) : Sat c N V e h a w :=
  let ⟨S, β, γ, lam, ω, F⟩ := H; ⟨S, β, γ, lam, ω, F.wider hUV⟩
def PanSat (c : Entry) (pv : AV) (h' : Hp) (v : Value) (w' : World) : Prop := ∃ S' β', Out c h' w' S' β' ∧ VR S' β' pv v
def After (P : Program) (c : Entry) (N : Nat) (U : Nat → Prop) (r : R Env) (o : Oper) (a : Act) (w : World) : Prop :=
  ∀ (next : Act → World → Prop) (Q : Exit → Act → World → Prop), (∀ e' h' a' w', r = .ok e' h' → Sat c N U e' h' a' w' → a'.defers = a.defers → next a' w') →
    (∀ pv h' v w', r = .pan pv h' → PanSat c pv h' v w' → Q (.panic [{ v, recovered := false }]) a w') → o.wp P a w next Q
omit [Dr] in
theorem put_defers (a : Act) (d : Option Tmp) (v : Value) : (a.put d v).defers = a.defers := by cases d <;> rfl
theorem After.val {P : Program} {c : Entry} {N : Nat} {U : Nat → Prop} {e' : Env} {h' : Hp} {o : Oper} {a : Act} {w w' : World} {v : Value}
    (hrun : (execOp a.eval o).run P w = .ok (.value v) w') (H : Sat c N U e' h' (a.put o.dst v) w') : After P c N U (.ok e' h') o a w := by
  intro next Q hn _
  unfold Oper.wp
  rw [hrun]
  exact hn e' h' _ _ rfl H (put_defers a o.dst v)
theorem After.skip {P : Program} {c : Entry} {N : Nat} {U : Nat → Prop} {e' : Env} {h' : Hp} {o : Oper} {a : Act} {w w' : World} (hd : o.dst = none)
    (hrun : (execOp a.eval o).run P w = .ok .skip w') (H : Sat c N U e' h' a w') : After P c N U (.ok e' h') o a w := by
  intro next Q hn _
  unfold Oper.wp
  rw [hrun]
  have : a.put o.dst undef = a := by rw [hd]; rfl
  simp only [Oper.upon]
  rw [this]
  exact hn e' h' _ _ rfl H rfl
end Go.Av

/- One operation: each kind. Conditions: the table of types is the program's; the calls are right. -/
namespace Go.Av
variable [Dr]
section
variable {P : Program} {cx : Cx} {c : Entry} {N : Nat} {U : Nat → Prop} {e : Env} {h : Hp} {a : Act} {w : World} {S : Stab} {β : List Blk} {γ : Nat → Value} {lam : Nat → Option Nat} {ω : Nat → Owner} {o : Oper} {gid : Nat}
theorem opnd_ok (H : FR c N U e h a w S β γ lam ω) (x : Operand) (ht : ∀ t, x = .tmp t → t < 1000) : VR S β (opnd e x) (a.eval x) := by
  cases x with
  | tmp t =>
    have := H.slots t (ht t rfl)
    simp only [opnd, Env.av, Ent.av, Act.eval]
    cases hv : (e.get t).v with
    | val av => rw [hv] at this; exact this
    | loc B off => simp [VR]
  | const v => exact VR_cA S β v
  | global g => simp [opnd, VR]
  | func f => simp only [opnd, VR, Act.eval]; exact ⟨[], [], rfl, by simp [VRs], by simp [VRs]⟩
theorem opnds_ok (H : FR c N U e h a w S β γ lam ω) : (xs : List Operand) → (∀ x ∈ xs, ∀ t, x = .tmp t → t < 1000) → VRs S β (xs.map (opnd e)) (xs.map a.eval)
  | [], _ => by simp [VRs]
  | x :: xs, ht => by
    simp only [List.map_cons, VRs]
    exact ⟨_, _, rfl, opnd_ok H x (ht x (by simp)), opnds_ok H xs fun y hy => ht y (by simp [hy])⟩
theorem optR_ok (H : FR c N U e h a w S β γ lam ω) (x : Option Operand) (ht : ∀ y, x = some y → ∀ t, y = .tmp t → t < 1000) : OptR S β (x.map (opnd e)) (x.map a.eval) := by
  cases x with
  | none => rfl
  | some y => exact ⟨_, rfl, opnd_ok H y (ht y rfl)⟩
theorem Sat.up (H : Sat c N U e h a w) : Sat c N (UG U gid) e h a w := H.wider fun _ h => .inl h
theorem pure_op (H : FR c N U e h a w S β γ lam ω) (hd : ∀ t, o.dst = some t → t < N) {r : Option AV} {m : Sem Value} (hrun : execOp a.eval o = (do pure (.value (← m)))) (hp : ∀ x, r = some x → Pur P w S β m x)
    (hr : (bnd (lft r) fun v => M.pure (e.upd o.dst (.ofV v))) h ≠ .fail) : After P c N (UG U gid) ((bnd (lft r) fun v => M.pure (e.upd o.dst (.ofV v))) h) o a w := by
  cases r with
  | none => exact absurd rfl hr
  | some x =>
    obtain ⟨v, h1, h2⟩ := hp x rfl
    exact After.val (v := v) (w' := w) (by rw [hrun]; simp only [Sem.run_bind, h1, Result.andThen_ok, Sem.run_pure]) (Sat.up ⟨S, β, γ, lam, ω, H.setV hd h2⟩)
theorem copy_op (H : FR c N U e h a w S β γ lam ω) (hd : ∀ t, o.dst = some t → t < N) {t : Nat} (ht : t < 1000) (hrun : (execOp a.eval o).run P w = .ok (.value (a.tmps.getD t undef)) w) :
    After P c N (UG U gid) (.ok (e.upd o.dst { ent := e.get t }) h) o a w :=
  After.val hrun (Sat.up ⟨S, β, γ, lam, ω, H.set hd (H.slots t ht) (fun g z hg hz => H.grps t g z ht hg hz) (fun g hg => H.used.1 t g hg)⟩)
theorem move_op (H : FR c N U e h a w S β γ lam ω) (hd : ∀ t, o.dst = some t → t < N) (hU : ∀ g, gid ≤ g → g < gid + 1000 → ¬ U g) {x : Operand} (hx : o.op = .move x ∨ o.op = .assign x) (ht : ∀ t, x = .tmp t → t < 1000) :
    After P c N (UG U gid) (runOp cx e gid o h) o a w := by
  have hrun : (execOp a.eval o).run P w = .ok (.value (a.eval x)) w := by rcases hx with hx | hx <;> simp [execOp, hx]
  have hop : runOp cx e gid o = runAct e o.dst (opMove (memO cx.ann.hb o.dst) e gid x) := by unfold runOp opD; rcases hx with hx | hx <;> rw [hx]
  rw [hop]
  unfold opMove
  cases x with
  | tmp t => exact copy_op H hd (ht t rfl) hrun
  | const v =>
    simp only
    cases hn : isNilConst (.const v) with
    | true =>
      have hv : v = .slice none 0 0 := by
        unfold isNilConst at hn
        split at hn
        · rename_i hq; simpa using hq
        · simp at hn
      subst hv
      simp only [cond_true]
      cases htold : memO cx.ann.hb o.dst with
      | true => exact After.val hrun (Sat.up ⟨S, β, γ, lam, ω, H.setV hd (by simp only [VR]; rfl)⟩)
      | false =>
      simp only [cond_false]
      obtain ⟨ω', F⟩ := H.own (v := .slice none 0 0) (r := .sl []) (z := none) hd (by simp only [VR]; exact ⟨none, 0, rfl, Nat.le_refl _, fun _ => rfl, fun q h => by cases h⟩) hU (.inl ⟨none, 0, rfl, fun _ => rfl⟩)
      exact After.val hrun ⟨S, β, _, lam, ω', F⟩
    | false =>
      simp only [cond_false]
      exact After.val hrun (Sat.up ⟨S, β, γ, lam, ω, H.setV hd (opnd_ok H _ (fun t h => by cases h))⟩)
  | global g =>
    exact After.val hrun (Sat.up ⟨S, β, γ, lam, ω, H.setV hd (opnd_ok H _ (fun t h => by cases h))⟩)
  | func f =>
    exact After.val hrun (Sat.up ⟨S, β, γ, lam, ω, H.setV hd (opnd_ok H _ (fun t h => by cases h))⟩)
omit [Dr] in
theorem VRs.allR {S : Stab} {β : List Blk} {cs : List AV} {vs : List Value} (h : VRs S β cs vs) : ∀ i, i < cs.length → ∃ v, vs[i]? = some v ∧ VR S β (nth cs i) v := by
  intro i hi
  obtain ⟨v, h1, h2⟩ := h.get (List.getElem?_eq_getElem hi)
  refine ⟨v, h1, ?_⟩
  unfold nth
  rw [List.getD_eq_getElem?_getD, List.getElem?_eq_getElem hi]
  exact h2
theorem partsR_ok (H : FR c N U e h a w S β γ lam ω) : (ps : List (Nat × Operand)) → (∀ p ∈ ps, ∀ t, p.2 = .tmp t → t < 1000) → PartsR S β (ps.map fun p => (p.1, opnd e p.2)) (ps.map fun p => (p.1, a.eval p.2))
  | [], _ => rfl
  | (i, x) :: ps, ht => by
    simp only [List.map_cons, PartsR]
    exact ⟨_, _, rfl, opnd_ok H x (ht (i, x) (by simp)), partsR_ok H ps fun q hq => ht q (by simp [hq])⟩
theorem buildSlice_op (hT : TOK P cx.T) (H : FR c N U e h a w S β γ lam ω) (hd : ∀ t, o.dst = some t → t < N) (hU : ∀ g, gid ≤ g → g < gid + 1000 → ¬ U g) {t n : Nat} {ps : Array (Nat × Operand)} (ho : o.op = .buildSlice t n ps)
    (ht : ∀ p ∈ ps.toList, ∀ t, p.2 = .tmp t → t < 1000) (hha : memO cx.ann.ha o.dst = false) (hr : runOp cx e gid o h ≠ .fail) : After P c N (UG U gid) (runOp cx e gid o h) o a w := by
  unfold runOp opD at hr ⊢
  rw [ho] at hr ⊢
  simp only [hha, cond_false] at hr ⊢
  cases hb : buildSliceA cx.T t n (ps.toList.map fun p => (p.1, opnd e p.2)) with
  | none => rw [hb] at hr; exact absurd rfl hr
  | some r =>
    obtain ⟨es, x, el, sz, rfl, hlen, hrow, hrun⟩ := buildSlice_ok (w := w) (qs := ps.map fun p => (p.1, a.eval p.2)) hT hb (by simpa using partsR_ok H ps.toList ht)
    have H2 := H.allocS x el x.size
    have hv : VR (S.withRowTo w.heap.size x.size x) β (.sl es) (.slice (some ⟨w.heap.size, 0, none⟩) n n) := by
      simp only [VR]
      refine ⟨_, n, by rw [hlen], by omega, (fun h => by cases h), fun q hq => ?_⟩
      simp only [Option.some.injEq] at hq; subst hq
      refine ⟨fun _ => rfl, sz, hrow.at (fun k o v hv => ?_) (fun o y hy => ?_)⟩
      · unfold Stab.withRowTo
        split
        · rename_i hk; subst hk; rw [H.wf.none (Nat.le_refl _)] at hv; simp at hv
        · exact hv
      · unfold Stab.withRowTo
        rw [if_pos rfl, if_pos]
        · exact hy
        · rcases Nat.lt_or_ge o x.size with h | h
          · exact h
          · rw [Array.getElem?_eq_none h] at hy; simp at hy
    have hex : (execOp a.eval o).run P w = .ok (.value (.slice (some ⟨w.heap.size, 0, none⟩) n n)) (w.alloc (.cells x el)) := by
      simp only [execOp, ho, Sem.run_bind, hrun, Result.andThen_ok, Sem.run_pure]
    simp only [runAct, lft, bnd, M.pure]
    cases hno : memO cx.ann.no o.dst with
    | true =>
      simp only [cond_true]
      exact After.val hex (Sat.up ⟨_, _, _, _, _, H2.setV hd hv⟩)
    | false =>
      simp only [cond_false]
      obtain ⟨ω', F⟩ := H2.own (z := none) hd hv hU (.inl ⟨_, _, rfl, fun h => by cases h⟩)
      exact After.val hex ⟨_, _, _, _, ω', F⟩
theorem makeSlice_op (hT : TOK P cx.T) (H : FR c N U e h a w S β γ lam ω) (hd : ∀ t, o.dst = some t → t < N) (hU : ∀ g, gid ≤ g → g < gid + 1000 → ¬ U g) {t : Nat} {l k : Operand} (ho : o.op = .makeSlice t l k)
    (hl : ∀ t, l = .tmp t → t < 1000) (hk : ∀ t, k = .tmp t → t < 1000) (hr : runOp cx e gid o h ≠ .fail) : After P c N (UG U gid) (runOp cx e gid o h) o a w := by
  unfold runOp opD at hr ⊢
  rw [ho] at hr ⊢
  simp only at hr ⊢
  cases hb : makeSliceA cx.T t (opnd e l) (opnd e k) with
  | none => rw [hb] at hr; exact absurd rfl hr
  | some r =>
    obtain ⟨es, x, el, sz, cap, rfl, hes, hlen, hxs, hrow, hrun⟩ := makeSlice_ok (w := w) hT hb (opnd_ok H l hl) (opnd_ok H k hk)
    have H2 := H.allocS x el (es.length * sz)
    have hle : es.length * sz ≤ cap * sz := Nat.mul_le_mul_right _ hlen
    have hv : VR (S.withRowTo w.heap.size (es.length * sz) x) β (.sl es) (.slice (some ⟨w.heap.size, 0, none⟩) es.length cap) := by
      simp only [VR]
      refine ⟨_, cap, rfl, hlen, (fun h => by cases h), fun q hq => ?_⟩
      simp only [Option.some.injEq] at hq; subst hq
      refine ⟨fun _ => rfl, sz, .of_get fun i y hy => ?_⟩
      obtain ⟨v, v1, v2, v3⟩ := hrow i y hy
      have hi : i < es.length := by
        rcases Nat.lt_or_ge i es.length with h | h
        · exact h
        · rw [List.getElem?_eq_none h] at hy; simp at hy
      have hm : (i + 1) * sz ≤ es.length * sz := Nat.mul_le_mul_right _ hi
      rw [Nat.add_mul] at hm
      refine ⟨v, VR.mono (fun k o v hv => ?_) (Ext.refl β) _ _ v1, v2, fun j u hu => ?_⟩
      · unfold Stab.withRowTo
        split
        · rename_i hk; subst hk; rw [H.wf.none (Nat.le_refl _)] at hv; simp at hv
        · exact hv
      · have hj : j < sz := by
          rcases Nat.lt_or_ge j v.cells.toList.length with h | h
          · simp [v2] at h; exact h
          · rw [List.getElem?_eq_none h] at hu; simp at hu
        unfold Stab.withRowTo
        rw [if_pos rfl, if_pos (Nat.lt_of_lt_of_le (show 0 + i * sz + j < i * sz + 1 * sz by omega) hm), Nat.zero_add]
        exact v3 j u (by simpa using hu)
    have hωn : ω w.heap.size = .no := by
      cases hoo : ω w.heap.size with
      | no => rfl
      | _ => have := (H.mine w.heap.size (by rw [hoo]; simp)).2; omega
    obtain ⟨ω', F⟩ := H2.own (z := elemSize cx.T t) hd hv hU (.inr ⟨es.length, cap, sz, w.heap.size, 0, x, rfl, hlen, hes, Row.new w x el, by omega, hωn, H.size, fun o' ho' => by
      unfold Stab.withRowTo; rw [if_pos rfl, if_neg (by omega)]⟩)
    refine After.val (v := .slice (some ⟨w.heap.size, 0, none⟩) es.length cap) (w' := w.alloc (.cells x el)) ?_ ⟨_, _, _, _, ω', F⟩
    simp only [execOp, ho, Sem.run_bind, hrun, Result.andThen_ok, Sem.run_pure]
theorem slice_op (hT : TOK P cx.T) (H : FR c N U e h a w S β γ lam ω) (hd : ∀ t, o.dst = some t → t < N) (hU : ∀ g, gid ≤ g → g < gid + 1000 → ¬ U g) {t : Nat} {x : Operand} {lo hi mx : Option Operand} (ho : o.op = .slice t x lo hi mx)
    (hx : ∀ t, x = .tmp t → t < 1000) (hlo : ∀ y, lo = some y → ∀ t, y = .tmp t → t < 1000) (hhi : ∀ y, hi = some y → ∀ t, y = .tmp t → t < 1000) (hmx : ∀ y, mx = some y → ∀ t, y = .tmp t → t < 1000)
    (hr : runOp cx e gid o h ≠ .fail) : After P c N (UG U gid) (runOp cx e gid o h) o a w := by
  unfold runOp opD at hr ⊢
  rw [ho] at hr ⊢
  simp only at hr ⊢
  cases hb : (bif memO cx.ann.hb o.dst then sliceT cx.T t (opnd e x) (lo.map (opnd e)) (hi.map (opnd e)) (mx.map (opnd e)) else sliceA cx.T t (opnd e x) (lo.map (opnd e)) (hi.map (opnd e)) (mx.map (opnd e))) with
  | none => rw [hb] at hr; exact absurd rfl hr
  | some r =>
    have hboth : ∃ v, (Instr.sliceAt t (a.eval x) (lo.map a.eval) (hi.map a.eval) (mx.map a.eval)).run P w = .ok v w ∧ VR S β r v ∧ ((mx.map (opnd e)).isSome = true → (∃ a n, v = .slice a n n) ∧ ∃ es, r = .sl es) := by
      cases htold : memO cx.ann.hb o.dst with
      | true => rw [htold] at hb; exact sliceT_ok (P := P) (w := w) hT hb (opnd_ok H x hx) (optR_ok H lo hlo) (optR_ok H hi hhi) (optR_ok H mx hmx)
      | false => rw [htold] at hb; exact slice_ok (P := P) (w := w) hT hb (opnd_ok H x hx) (optR_ok H lo hlo) (optR_ok H hi hhi) (optR_ok H mx hmx)
    obtain ⟨v, hrun, hv, hown⟩ := hboth
    have hrun' : (execOp a.eval o).run P w = .ok (.value v) w := by simp only [execOp, ho, Sem.run_bind, hrun, Result.andThen_ok, Sem.run_pure]
    cases mx with
    | none => exact After.val hrun' (Sat.up ⟨S, β, γ, lam, ω, H.setV hd hv⟩)
    | some m =>
      obtain ⟨⟨ad, n, rfl⟩, es, rfl⟩ := hown rfl
      have hn : ad = none → n = 0 := by
        rintro rfl
        have hv := hv
        simp only [VR] at hv
        obtain ⟨_, _, he, _, h2, _⟩ := hv
        simp only [Value.slice.injEq] at he
        obtain ⟨rfl, _, rfl⟩ := he
        exact h2 rfl
      obtain ⟨ω', F⟩ := H.own (z := none) hd hv hU (.inl ⟨ad, n, rfl, hn⟩)
      exact After.val hrun' ⟨_, _, _, _, ω', F⟩
end
end Go.Av

/- One operation: memory. Conditions: the table of types is the program's; the calls are right. -/
namespace Go.Av
variable [Dr]
section
variable {P : Program} {cx : Cx} {c : Entry} {N : Nat} {U : Nat → Prop} {e : Env} {h : Hp} {a : Act} {w : World} {S : Stab} {β : List Blk} {γ : Nat → Value} {lam : Nat → Option Nat} {ω : Nat → Owner} {o : Oper} {gid : Nat}
theorem FR.locals (H : FR c N U e h a w S β γ lam ω) {B off n : Nat} (hin : inLb e B off n = true) : ∃ b x m, lbSize e.lb B = some m ∧ off + n ≤ m ∧ lam B = some b ∧ Row w b x ∧ m ≤ x.size ∧
    ∀ i, i < n → ∃ v a', x[off + i]? = some v ∧ (e.get (B + off + i)).v = .val a' ∧ VR S β a' v ∧ ∀ g z, (e.get (B + off + i)).g = some g → aliveG e.al g = some z → v = γ g := by
  unfold inLb at hin
  split at hin
  · rename_i m hm
    have hle : off + n ≤ m := by simp at hin; exact hin.1
    obtain ⟨_, _, _, b, x, h1, h2, h3, h4, h5⟩ := H.lblk B m hm
    have hms : m ≤ x.size := by
      rcases Nat.eq_zero_or_pos m with h0 | h0
      · omega
      · obtain ⟨v, _, hv, _⟩ := h5 (m - 1) (by omega)
        rcases Nat.lt_or_ge (m - 1) x.size with h | h
        · omega
        · rw [Array.getElem?_eq_none h] at hv; simp at hv
    refine ⟨b, x, m, hm, hle, h1, h2, hms, fun i hi => ?_⟩
    have := h5 (off + i) (by omega)
    rw [← Nat.add_assoc] at this
    exact this
  · simp at hin
omit [Dr] in
theorem getLs_ok {S : Stab} {β : List Blk} {e : Env} {B : Nat} {f : Nat → Value} : (n : Nat) → (∀ i, i < n → VR S β (e.av (B + i)) (f i)) → VRs S β (getLs e B n) ((List.range n).map f)
  | 0, _ => by simp [getLs, VRs]
  | n + 1, hh => by
    simp only [getLs, List.range_succ, List.map_append, List.map_cons, List.map_nil]
    refine VRs.append (getLs_ok n fun i hi => hh i (by omega)) ?_
    simp only [VRs]
    exact ⟨_, _, rfl, hh n (by omega), rfl⟩
omit [Dr] in
theorem loadVar_row (hT : TOK P cx.T) {t : Nat} {ti : TI} (ht : cx.T t = some ti) {b off : Nat} {x : Array Value} (hr : Row w b x) (f : Nat → Value) (hf : ∀ i, i < ti.size → x[off + i]? = some (f i)) :
    (ti.agg = true → (loadVar t ⟨b, off, none⟩).run P w = .ok (.agg ((List.range ti.size).map f).toArray) w) ∧ (ti.agg = false → ti.size = 1 → (loadVar t ⟨b, off, none⟩).run P w = .ok (f 0) w) := by
  obtain ⟨ii, d, _, hii, hd, _, _, hsz, _, _, hag, _⟩ := (hT.get ht).ex
  refine ⟨fun hagg => ?_, fun hagg hone => ?_⟩
  · have := run_loadCells (P := P) w ⟨b, off, none⟩ ti.size f (fun j hj => by rw [addr_add, hr.cell]; exact hf j hj)
    simp [loadVar, run_isAgg hd, hag, hagg, run_sizeOf hii, hsz, this]
  · have h0 := hf 0 (by omega)
    rw [← hr.cell] at h0
    simp only [Nat.add_zero] at h0
    simp [loadVar, run_isAgg hd, hag, hagg, h0]
omit [Dr] in
theorem loadH_ne {T : TT} {t : Nat} {x : AV} {h : Hp} (hx : ∀ l off, x ≠ .hp l off) : loadH T t x h = match loadA T t x with | some v => .ok v h | none => .fail := by
  unfold loadH
  cases x <;> first | rfl | exact absurd rfl (hx _ _)
theorem load_op (hT : TOK P cx.T) (H : FR c N U e h a w S β γ lam ω) (hd : ∀ t, o.dst = some t → t < N) {t p : Nat} (ho : o.op = .load t (.tmp p)) (hx : p < 1000) (hr : runAct e o.dst (opLoad cx e o.dst t p) h ≠ .fail) :
    After P c N (UG U gid) (runAct e o.dst (opLoad cx e o.dst t p) h) o a w := by
  have hp := H.slots p hx
  unfold opLoad at hr ⊢
  cases hv : (e.get p).v with
  | loc B off =>
    rw [hv] at hr hp
    simp only at hr ⊢
    simp only [SlotR] at hp
    obtain ⟨b, hlam, hpv⟩ := hp
    cases ht : cx.T t with
    | none => rw [ht] at hr; exact absurd rfl hr
    | some ti =>
      rw [ht] at hr
      simp only at hr ⊢
      cases hin : inLb e B off ti.size with
      | false => rw [hin] at hr; exact absurd rfl hr
      | true =>
        rw [hin] at hr
        simp only [cond_true] at hr ⊢
        obtain ⟨b', x, m, hm, hle, hlam', hrow, hms, hcells⟩ := H.locals hin
        rw [hlam] at hlam'; cases hlam'
        let f : Nat → Value := fun i => (x[off + i]?).getD undef
        have hf : ∀ i, i < ti.size → x[off + i]? = some (f i) := fun i hi => by
          obtain ⟨v, _, hv', _⟩ := hcells i hi
          show _ = some ((x[off + i]?).getD undef)
          rw [hv']; rfl
        have hload := loadVar_row hT ht hrow f hf
        have hexec : ∀ v, (loadVar t ⟨b, off, none⟩).run P w = .ok v w → (execOp a.eval o).run P w = .ok (.value v) w := fun v hv' => by
          simp only [execOp, ho, Act.eval, hpv, Instr.loadAt, Instr.sureAddr, Sem.run_bind, Sem.run_pure, Result.andThen_ok, hv']
        cases hag : ti.agg with
        | true =>
          simp only [cond_true]
          refine After.val (hexec _ (hload.1 hag)) (Sat.up ⟨S, β, γ, lam, ω, H.setV hd ?_⟩)
          simp only [VR]
          refine ⟨_, rfl, getLs_ok ti.size fun i hi => ?_⟩
          obtain ⟨v, a', g1, g2, g3, _⟩ := hcells i hi
          have : f i = v := by show (x[off + i]?).getD undef = v; rw [g1]; rfl
          rw [this]
          simp only [Env.av, Ent.av, g2]
          exact g3
        | false =>
          rw [hag] at hr
          simp only [cond_false] at hr ⊢
          cases hone : decide (ti.size = 1) with
          | false => rw [hone] at hr; exact absurd rfl hr
          | true =>
            have hone' : ti.size = 1 := by simpa using hone
            simp only [cond_true]
            obtain ⟨v, a', g1, g2, g3, g4⟩ := hcells 0 (by omega)
            simp only [Nat.add_zero] at g1 g2 g4
            have hfv : f 0 = v := by show (x[off + 0]?).getD undef = v; rw [Nat.add_zero, g1]; rfl
            refine After.val (hexec _ (hfv ▸ hload.2 hag hone')) (Sat.up ⟨S, β, γ, lam, ω, H.set hd ?_ (fun g z hg hz => g4 g z hg hz) (fun g hg => H.used.1 _ g hg)⟩)
            rw [g2]
            exact g3
  | val av =>
    rw [hv] at hr hp
    simp only at hr ⊢
    simp only [SlotR] at hp
    have hexec : ∀ v, (Instr.loadAt t (a.tmps.getD p undef)).run P w = .ok v w → (execOp a.eval o).run P w = .ok (.value v) w := fun v hv' => by
      simp only [execOp, ho, Act.eval, Sem.run_bind, hv', Result.andThen_ok, Sem.run_pure]
    have hbyval : ∀ r, loadA cx.T t av = some r → After P c N (UG U gid) (.ok (e.upd o.dst (.ofV r)) h) o a w := fun r hr' => by
      obtain ⟨v, h1, h2⟩ := load_ok hT H.wf hr' hp
      exact After.val (hexec v h1) (Sat.up ⟨S, β, γ, lam, ω, H.setV hd h2⟩)
    cases hmem : memO cx.ann.hl o.dst with
    | false =>
      rw [hmem] at hr
      simp only [cond_false] at hr ⊢
      cases hl : loadA cx.T t av with
      | none => rw [hl] at hr; exact absurd rfl hr
      | some r => exact hbyval r hl
    | true =>
      rw [hmem] at hr
      simp only [cond_true] at hr ⊢
      simp only [runAct, bnd] at hr ⊢
      by_cases hav : ∃ l off, av = .hp l off
      · obtain ⟨l, off, rfl⟩ := hav
        unfold loadH at hr ⊢
        simp only at hr ⊢
        simp only [VR] at hp
        obtain ⟨⟨b, nb⟩, hb, hb0, hpv⟩ := hp
        cases ht : cx.T t with
        | none => rw [ht] at hr; exact absurd rfl hr
        | some ti =>
          cases hcs : h[l]? with
          | none => rw [ht, hcs] at hr; exact absurd rfl hr
          | some cs =>
            rw [ht, hcs] at hr
            simp only at hr ⊢
            obtain ⟨ii, d, _, hii, hdd, _, _, hsz, _, _, hagd, _⟩ := (hT.get ht).ex
            by_cases hne : cs = []
            · subst hne
              cases hag : ti.agg with
              | true =>
                rw [hag] at hr
                simp only [cond_true, List.length_nil] at hr ⊢
                by_cases hz : off + ti.size ≤ 0
                · rw [if_pos hz] at hr ⊢
                  have hz0 : ti.size = 0 := by omega
                  have hl0 : (loadVar t ⟨b, off, none⟩).run P w = .ok (.agg #[]) w := by
                    simp [loadVar, run_isAgg hdd, hagd, hag, run_sizeOf hii, hsz, hz0, loadCells, loadCellsFrom]
                  refine After.val (v := .agg #[]) (hexec _ (by rw [hpv]; simp only [Instr.loadAt, Instr.sureAddr, Sem.run_bind, Sem.run_pure, Result.andThen_ok, hl0])) (Sat.up ⟨S, β, γ, lam, ω, H.setV hd ?_⟩)
                  simp only [VR]
                  exact ⟨[], by simp, by simp [VRs]⟩
                · rw [if_neg hz] at hr; exact absurd rfl hr
              | false => rw [hag, List.getElem?_nil] at hr; exact absurd rfl hr
            · obtain ⟨y, k1, k2, k3, k4, k5⟩ := H.heap.cells hcs hne hb hb0
              rw [hb] at k1; cases k1
              have hcell : ∀ j v, (y.toList.take cs.length)[j]? = some v → w.cell? ⟨b, 0 + j, none⟩ = some v := fun j v hj => by
                rw [Nat.zero_add, k2.cell]
                rw [List.getElem?_take] at hj
                split at hj
                · simpa using hj
                · simp at hj
              have hvd := k4.drop off
              have hcd : ∀ j v, ((y.toList.take cs.length).drop off)[j]? = some v → w.cell? ⟨b, off + j, none⟩ = some v := fun j v hj => by
                rw [List.getElem?_drop] at hj
                have := hcell _ _ hj
                rwa [Nat.zero_add] at this
              cases hag : ti.agg with
              | true =>
                rw [hag] at hr
                simp only [cond_true] at hr ⊢
                by_cases hz : off + ti.size ≤ cs.length
                · rw [if_pos hz] at hr ⊢
                  obtain ⟨v, h1, h2⟩ := loadVar_ok hT ht hvd hcd (r := .agg ((cs.drop off).take ti.size)) (by rw [hag]; simp only [cond_true]; rw [if_pos (by simp; omega)])
                  exact After.val (hexec v (by rw [hpv]; simp only [Instr.loadAt, Instr.sureAddr, Sem.run_bind, Sem.run_pure, Result.andThen_ok, h1])) (Sat.up ⟨S, β, γ, lam, ω, H.setV hd h2⟩)
                · rw [if_neg hz] at hr; exact absurd rfl hr
              | false =>
                rw [hag] at hr
                simp only [cond_false] at hr ⊢
                cases hg : cs[off]? with
                | none => rw [hg] at hr; exact absurd rfl hr
                | some r =>
                  simp only
                  obtain ⟨v, h1, h2⟩ := loadVar_ok hT ht hvd hcd (r := r) (by rw [hag]; simp only [cond_false, List.head?_drop]; exact hg)
                  exact After.val (hexec v (by rw [hpv]; simp only [Instr.loadAt, Instr.sureAddr, Sem.run_bind, Sem.run_pure, Result.andThen_ok, h1])) (Sat.up ⟨S, β, γ, lam, ω, H.setV hd h2⟩)
      · rw [loadH_ne (fun l off hh => hav ⟨l, off, hh⟩)] at hr ⊢
        cases hl : loadA cx.T t av with
        | none => rw [hl] at hr; exact absurd rfl hr
        | some r => exact hbyval r hl
end
end Go.Av

/- One operation: stores. Conditions: the table of types is the program's; the calls are right. -/
namespace Go.Av
variable [Dr]
section
variable {P : Program} {cx : Cx} {c : Entry} {N : Nat} {U : Nat → Prop} {e : Env} {h : Hp} {a : Act} {w : World} {S : Stab} {β : List Blk} {γ : Nat → Value} {lam : Nat → Option Nat} {ω : Nat → Owner} {o : Oper} {gid : Nat}
omit [Dr] in
theorem okCell_ok {x : AV} {v : Value} (h : okCell x = true) (hv : VR S β x v) : v.cells = #[v] ∧ v.oneCell' = true := by
  have h1 : sizeA x = some 1 := by cases x <;> simp_all [okCell, sizeA]
  have h2 : okEl 1 x = true := by
    unfold okEl
    rw [h1]
    cases x <;> simp_all [okCell, acells]
  obtain ⟨g1, g2, g3⟩ := okEl_ok h2 hv
  have hc : v.cells = #[v] := by
    cases x <;> simp [okCell] at h <;> simp only [VR] at hv
    case bool => subst hv; rfl
    case int => subst hv; rfl
    case nilp => subst hv; rfl
    case nilf => subst hv; rfl
    case nili => subst hv; rfl
    case hn => subst hv; rfl
    case str => obtain ⟨_, rfl, _⟩ := hv; rfl
    case sl => obtain ⟨_, _, rfl, _⟩ := hv; rfl
    case ip => obtain ⟨_, _, _, rfl, _⟩ := hv; rfl
    case hp => obtain ⟨_, _, _, rfl⟩ := hv; rfl
    case mp => obtain ⟨_, _, _, rfl⟩ := hv; rfl
    case nilm => subst hv; rfl
    case hs => rcases hv with ⟨_, _, _, _, rfl, _⟩ | ⟨_, _, rfl⟩ <;> rfl
    case fn => obtain ⟨_, _, rfl, _⟩ := hv; rfl
    case iface => obtain ⟨_, rfl, _⟩ := hv; rfl
  exact ⟨hc, g3 v (by rw [hc]; simp)⟩
omit [Dr] in
theorem storeAt_run (hT : TOK P cx.T) {t : Nat} {ti : TI} (ht : cx.T t = some ti) {b off : Nat} {x : Array Value} {v : Value} (hr : Row w b x) (hs : v.cells.size = ti.size) (hone : ∀ y ∈ v.cells.toList, y.oneCell' = true) (hle : off + ti.size ≤ x.size) :
    (Instr.storeAt t (.pointer (some ⟨b, off, none⟩)) v).run P w = .ok () (w.setRow b (x.toList.take off ++ v.cells.toList ++ x.toList.drop (off + v.cells.toList.length)).toArray) := by
  obtain ⟨ii, d, _, hii, hd, _, _, hsz, _⟩ := (hT.get ht).ex
  obtain ⟨te, hrow⟩ := hr
  have hst := run_storeCells_at P b off te v.cells.toList 0 x w hrow (by simp [hs]; omega) hone
  simp only [Nat.add_zero] at hst
  have hne : ¬ (v.cells.size ≠ ii.size) := by rw [hs, hsz]; simp
  simp only [Instr.storeAt, Instr.sureAddr, Sem.run_bind, Sem.run_pure, Result.andThen_ok, storeVar, run_sizeOf hii, hne, if_false, hst]
omit [Dr] in
theorem cellsN_ok {n : Nat} {x : AV} {cs : List AV} {v : Value} (h : cellsN n x = some cs) (hv : VR S β x v) : cs = acells x ∧ v.cells.size = n ∧ VRs S β cs v.cells.toList ∧ ∀ y ∈ v.cells.toList, y.oneCell' = true := by
  unfold cellsN at h
  cases hk : okEl n x with
  | false => rw [hk] at h; simp at h
  | true =>
    rw [hk] at h
    simp only [cond_true, Option.some.injEq] at h
    subst h
    obtain ⟨h1, h2, h3⟩ := okEl_ok hk hv
    exact ⟨rfl, h1, h2, h3⟩
omit [Dr] in
theorem isHn_inv {x : AV} (h : isHn x = true) : x = .hn := by cases x <;> simp_all [isHn]
theorem store_op (hT : TOK P cx.T) (H : FR c N U e h a w S β γ lam ω) (_hN : ∀ t, t < 1000 → True) (hU : ∀ g, gid ≤ g → g < gid + 1000 → ¬ U g) {t : Nat} {x y : Operand} (ho : o.op = .store t x y) (hx : ∀ t, x = .tmp t → t < 1000) (hy : ∀ t, y = .tmp t → t < 1000)
    (hpN : ∀ p, x = .tmp p → isS (findK cx.ann.kinds p .L) = true → p < N) (hr : runOp cx e gid o h ≠ .fail) : After P c N (UG U gid) (runOp cx e gid o h) o a w := by
  unfold runOp opD at hr ⊢
  rw [ho] at hr ⊢
  cases x <;> simp only at hr ⊢ <;> (try exact absurd rfl hr)
  rename_i p
  cases hdst : o.dst with
  | some d => rw [hdst] at hr; exact absurd rfl hr
  | none =>
  rw [hdst] at hr
  simp only at hr ⊢
  cases hlw : memN cx.ann.lw p && !(isLocE (e.get p)) with
  | true => rw [hlw] at hr; exact absurd rfl hr
  | false =>
  rw [hlw] at hr
  simp only [cond_false] at hr ⊢
  have hp := H.slots p (hx p rfl)
  have hyv := opnd_ok H y hy
  have hexec : ∀ w', (Instr.storeAt t (a.tmps.getD p undef) (a.eval y)).run P w = .ok () w' → (execOp a.eval o).run P w = .ok .skip w' := fun w' hh => by
    have he : a.eval (.tmp p) = a.tmps.getD p undef := rfl
    simp only [execOp, ho, he, Sem.run_bind, hh, Result.andThen_ok, Sem.run_pure]
  unfold opStore at hr ⊢
  cases hv : (e.get p).v with
  | loc B off =>
    rw [hv] at hr hp
    simp only at hr ⊢
    simp only [SlotR] at hp
    obtain ⟨b, hlam, hpv⟩ := hp
    cases ht : cx.T t with
    | none => rw [ht] at hr; exact absurd rfl hr
    | some ti =>
      rw [ht] at hr
      simp only at hr ⊢
      cases hin : inLb e B off ti.size with
      | false => rw [hin] at hr; exact absurd rfl hr
      | true =>
        rw [hin] at hr
        simp only [cond_true] at hr ⊢
        obtain ⟨b', z, m, hm, hle, hlam', hrow, hms, hcells⟩ := H.locals hin
        rw [hlam] at hlam'; cases hlam'
        have hst : ∀ v, a.eval y = v → v.cells.size = ti.size → (∀ q ∈ v.cells.toList, q.oneCell' = true) →
            (execOp a.eval o).run P w = .ok .skip (w.setRow b (z.toList.take off ++ v.cells.toList ++ z.toList.drop (off + v.cells.toList.length)).toArray) := fun v hv' h1 h2 =>
          hexec _ (by rw [hpv, hv']; exact storeAt_run hT ht hrow h1 h2 (by omega))
        cases hS : isS (findK cx.ann.kinds p .L) with
        | true =>
          rw [hS] at hr
          simp only [cond_true] at hr ⊢
          cases hcond : wholeB e B off p ti.size with
          | false => rw [hcond] at hr; exact absurd rfl hr
          | true =>
            rw [hcond] at hr
            simp only [cond_true] at hr ⊢
            unfold wholeB at hcond
            rw [hm] at hcond
            simp only [Bool.and_eq_true] at hcond
            obtain ⟨⟨h1, h2⟩, h3⟩ := hcond
            have h1 := Nat.eq_of_beq_eq_true h1
            have h3 := Nat.eq_of_beq_eq_true h3
            subst h1 h3
            unfold cellsM at hr ⊢
            cases hcs : cellsN ti.size (opnd e y) with
            | none => rw [hcs] at hr; exact absurd rfl hr
            | some cs =>
              obtain ⟨k1, k2, k3, k4⟩ := cellsN_ok hcs hyv
              obtain ⟨S', ω', _, F⟩ := H.storeS (u := ⟨.val (.tup []), none⟩) (hpN p rfl hS) hm (by simpa using k2) hlam hrow k3 hpv
              refine After.skip hdst (hst _ rfl k2 k4) ?_
              have F2 := F.wider (V := UG U gid) (fun _ h => .inl h)
              have hacs : acells (.agg cs) = cs := rfl
              simp only [List.take_zero, List.nil_append, Nat.zero_add] at F2 ⊢
              exact ⟨_, _, _, _, _, F2⟩
        | false =>
          rw [hS] at hr
          simp only [cond_false] at hr ⊢
          cases hag : ti.agg with
          | true =>
            rw [hag] at hr
            simp only [cond_true] at hr ⊢
            unfold cellsNil at hr ⊢
            cases hcs : cellsN ti.size (opnd e y) with
            | none => rw [hcs] at hr; exact absurd rfl hr
            | some cs =>
              rw [hcs] at hr
              simp only at hr ⊢
              cases hnil : nilsAt cs (findN cx.ann.nils p) ti.size with
              | false => rw [hnil] at hr; exact absurd rfl hr
              | true =>
                obtain ⟨k1, k2, k3, k4⟩ := cellsN_ok hcs hyv
                have hnb : ∀ i ∈ findN cx.ann.nils p, i < ti.size ∧ nth cs i = .hn := fun i hi => by
                  unfold nilsAt at hnil
                  rw [List.all_eq_true] at hnil
                  have := hnil i hi
                  rw [Bool.and_eq_true] at this
                  exact ⟨by simpa using this.1, isHn_inv this.2⟩
                have hm1000 : m < 1000 := (H.lblk B m hm).2.2.1
                have hcsl : cs.length = ti.size := by rw [← k3.length]; simpa using k2
                have F := H.storeL (u := ⟨.val (.tup []), none⟩) (L := lsOf (B + off) cs (findN cx.ann.nils p) gid ti.size) (A := gsOf (findN cx.ann.nils p) gid) (vs := (a.eval y).cells.toList) (ent := cellEnt cs (findN cx.ann.nils p) gid)
                  hU (nilGroups_gsOf (fun i hi => (hnb i hi).1) (by omega)) hm hle (by simpa using k2) hlam hrow (fun t' => lookE_lsOf _ _ _ _ _ _ _) (fun i hi => by
                    obtain ⟨v, v1, v2⟩ := k3.allR i (by omega)
                    unfold cellEnt
                    cases hmem : memN (findN cx.ann.nils p) i with
                    | true =>
                      have hn := (hnb i ((memN_iff _ _).1 hmem)).2
                      rw [hn] at v2
                      simp only [VR] at v2
                      subst v2
                      refine ⟨_, .sl [], v1, rfl, ?_, fun g z hg _ => ?_, fun g hg => ?_⟩
                      · simp only [VR]; exact ⟨none, 0, rfl, Nat.le_refl _, fun _ => rfl, fun q hq => by cases hq⟩
                      · simp only [cond_true, Option.some.injEq] at hg
                        unfold γN
                        rw [if_pos (by omega)]
                      · simp only [cond_true, Option.some.injEq] at hg
                        exact .inr (by omega)
                    | false => exact ⟨v, nth cs i, v1, rfl, v2, fun g z hg _ => by simp at hg, fun g hg => by simp at hg⟩)
                refine After.skip hdst (hst _ rfl k2 k4) ?_
                exact ⟨_, _, _, _, _, F⟩
          | false =>
            rw [hag] at hr
            simp only [cond_false] at hr ⊢
            cases hone : decide (ti.size = 1) with
            | false => rw [hone] at hr; exact absurd rfl hr
            | true =>
              have hone' : ti.size = 1 := by simpa using hone
              rw [hone] at hr
              simp only [cond_true] at hr ⊢
              have hput : ∀ (v : Value) (u : Ent) (en : Ent) (A : List (Nat × Option Nat)) (av : AV), a.eval y = v → v.cells = #[v] → v.oneCell' = true → NilGroups A gid → en.v = .val av → VR S β av v →
                  (∀ g z, en.g = some g → aliveG (A ++ e.al) g = some z → v = γN γ gid g) → (∀ g, en.g = some g → U g ∨ (gid ≤ g ∧ g < gid + 1000)) →
                  After P c N (UG U gid) (.ok (e.upd none { ent := u, ls := [(B + off, en)], add := A }) h) o a w := by
                intro v u en A av hav hc1 hc2 hA hen hr1 hg1 hg2
                have F := H.storeL (u := u) (L := [(B + off, en)]) (A := A) (n := 1) (m := m) (off := off) (vs := v.cells.toList) (ent := fun _ => en) hU hA hm (by omega) (by rw [hc1]; rfl) hlam hrow (fun t' => by
                    simp only [List.cons_append, List.nil_append, lookE_cons]
                    by_cases ht' : B + off = t'
                    · rw [if_pos ht', if_pos (by omega)]
                    · rw [if_neg ht', if_neg (by omega)]; rfl) (fun i hi => by
                    have : i = 0 := by omega
                    subst this
                    exact ⟨v, av, by rw [hc1]; rfl, hen, hr1, hg1, hg2⟩)
                refine After.skip hdst (hst v hav (by rw [hc1, hone']; rfl) (by rw [hc1]; simpa using hc2)) ?_
                exact ⟨_, _, _, _, _, F⟩
              rw [hdst] at *
              cases y with
              | tmp s =>
                simp only at hr ⊢
                have hs := H.slots s (hy s rfl)
                cases hsv : (e.get s).v with
                | loc _ _ => rw [hsv] at hr; exact absurd rfl hr
                | val av =>
                  rw [hsv] at hr hs
                  simp only at hr ⊢
                  unfold cell1M at hr ⊢
                  cases hok : okCell av with
                  | false => rw [hok] at hr; exact absurd rfl hr
                  | true =>
                    obtain ⟨j1, j2⟩ := okCell_ok hok hs
                    refine hput _ _ (e.get s) [] av rfl j1 j2 (nilGroups_nil gid) hsv hs (fun g z hg hz => ?_) (fun g hg => .inl (H.used.1 s g hg))
                    unfold γN
                    rw [if_neg (fun hr => hU g hr.1 hr.2 (H.used.1 s g hg))]
                    exact H.grps s g z (hy s rfl) hg hz
              | const v =>
                simp only at hr ⊢
                cases hn : isNilConst (.const v) with
                | true =>
                  have hv' : v = .slice none 0 0 := by
                    unfold isNilConst at hn
                    split at hn
                    · rename_i hq; simpa using hq
                    · simp at hn
                  subst hv'
                  refine hput _ _ _ _ (.sl []) rfl rfl rfl (nilGroups_one gid) rfl ?_ (fun g z hg hz => ?_) (fun g hg => ?_)
                  · simp only [VR]; exact ⟨none, 0, rfl, Nat.le_refl _, fun _ => rfl, fun q hq => by cases hq⟩
                  · simp only [Option.some.injEq] at hg
                    unfold γN
                    rw [if_pos (by omega)]
                    rfl
                  · simp only [Option.some.injEq] at hg
                    exact .inr (by omega)
                | false =>
                  rw [hn] at hr
                  simp only [cond_false] at hr ⊢
                  unfold cell1M at hr ⊢
                  cases hok : okCell (opnd e (.const v)) with
                  | false => rw [hok] at hr; exact absurd rfl hr
                  | true =>
                    obtain ⟨j1, j2⟩ := okCell_ok hok hyv
                    exact hput _ _ _ [] _ rfl j1 j2 (nilGroups_nil gid) rfl hyv (fun g z hg _ => by cases hg) (fun g hg => by cases hg)
              | global g => simp only [isNilConst, cond_false, cell1M, opnd, okCell] at hr; exact absurd rfl hr
              | func f =>
                simp only [isNilConst, cond_false] at hr ⊢
                unfold cell1M at hr ⊢
                cases hok : okCell (opnd e (.func f)) with
                | false => rw [hok] at hr; exact absurd rfl hr
                | true =>
                  obtain ⟨j1, j2⟩ := okCell_ok hok hyv
                  exact hput _ _ _ [] _ rfl j1 j2 (nilGroups_nil gid) rfl hyv (fun g z hg _ => by cases hg) (fun g hg => by cases hg)
  | val av =>
    rw [hv] at hr hp
    simp only at hr ⊢
    simp only [SlotR] at hp
    simp only [runAct, bnd] at hr ⊢
    cases hav : av with
    | hp l off =>
      subst hav
      simp only [VR] at hp
      obtain ⟨⟨b, nb⟩, hb, hb0, hpv⟩ := hp
      unfold storeH at hr ⊢
      cases ht : cx.T t with
      | none => rw [ht] at hr; exact absurd rfl hr
      | some ti =>
        rw [ht] at hr
        simp only at hr ⊢
        cases hcs : h[l]? with
        | none => rw [hcs] at hr; exact absurd rfl hr
        | some cs =>
          rw [hcs] at hr
          simp only at hr ⊢
          cases hcond : (okEl ti.size (opnd e y) && decide (off + ti.size ≤ cs.length) && decide (0 < ti.size)) with
          | false => rw [hcond] at hr; exact absurd rfl hr
          | true =>
            rw [hcond] at hr
            simp only [cond_true] at hr ⊢
            simp only [Bool.and_eq_true, decide_eq_true_eq] at hcond
            obtain ⟨⟨h1, h2⟩, h3⟩ := hcond
            obtain ⟨k2, k3, k4⟩ := okEl_ok h1 hyv
            have hne : cs ≠ [] := by rintro rfl; simp at h2; omega
            obtain ⟨z, j1, j2, j3, j4, j5⟩ := H.heap.cells hcs hne hb hb0
            rw [hb] at j1; cases j1
            have hzs : cs.length ≤ z.size := by
              have := j4.length
              simp at this
              omega
            have hacl : (acells (opnd e y)).length = ti.size := by rw [← k3.length]; simpa using k2
            have F := H.turnH (cs' := setCells cs off (acells (opnd e y))) (y := (z.toList.take off ++ (a.eval y).cells.toList ++ z.toList.drop (off + (a.eval y).cells.toList.length)).toArray) hcs hne ⟨_, hb⟩ j2 (by simp [k2]; omega) (by
              rw [setCells_length _ _ _ (by omega)]
              have hsp : VRs S β (setCells cs off (acells (opnd e y))) (((z.toList.take cs.length).take off ++ (a.eval y).cells.toList ++ (z.toList.take cs.length).drop (off + (a.eval y).cells.toList.length))) := by
                unfold setCells
                have hl1 : (a.eval y).cells.toList.length = (acells (opnd e y)).length := k3.length
                rw [hl1]
                exact ((j4.take off).append k3).append (j4.drop _)
              have heq : (z.toList.take off ++ (a.eval y).cells.toList ++ z.toList.drop (off + (a.eval y).cells.toList.length)).take cs.length =
                  (z.toList.take cs.length).take off ++ (a.eval y).cells.toList ++ (z.toList.take cs.length).drop (off + (a.eval y).cells.toList.length) := by
                rw [List.take_append, List.take_append]
                have hl : (a.eval y).cells.toList.length = ti.size := by simpa using k2
                have e1 : (z.toList.take off).length = off := by simp; omega
                rw [List.take_take, List.take_take]
                have e2 : min cs.length off = off := by omega
                have e3 : min off cs.length = off := by omega
                rw [e2, e3, e1]
                have e4 : (a.eval y).cells.toList.take (cs.length - off) = (a.eval y).cells.toList := List.take_of_length_le (by omega)
                rw [e4]
                congr 1
                rw [List.take_drop, List.length_append, e1, hl]
                congr 2
                omega
              show VRs S β _ (List.take _ _)
              rw [show (z.toList.take off ++ (a.eval y).cells.toList ++ z.toList.drop (off + (a.eval y).cells.toList.length)).toArray.toList = (z.toList.take off ++ (a.eval y).cells.toList ++ z.toList.drop (off + (a.eval y).cells.toList.length)) from rfl, heq]
              exact hsp) (fun t ht => ht.setCells.resolve_right (nob_okEl h1 t))
            refine After.skip hdst (hexec _ (by rw [hpv]; exact storeAt_run hT ht j2 k2 k4 (by omega))) ?_
            have hupd : ∀ E : Env, E.upd none (.ofV (.tup [])) = E := fun E => rfl
            rw [hupd]
            exact Sat.up ⟨_, _, _, _, _, F⟩
    | _ => subst hav; unfold storeH at hr; exact absurd rfl hr
end
end Go.Av

/- One operation: new memory, addresses, calls. Conditions: the table of types is the program's; the calls are right. -/
namespace Go.Av
variable [Dr]
section
variable {P : Program} {cx : Cx} {c : Entry} {N : Nat} {U : Nat → Prop} {e : Env} {h : Hp} {a : Act} {w : World} {S : Stab} {β : List Blk} {γ : Nat → Value} {lam : Nat → Option Nat} {ω : Nat → Owner} {o : Oper} {gid : Nat}
theorem boxF (H : FR c N U e h a w S β γ lam ω) (hd : ∀ t, o.dst = some t → t < N) {cs : List AV} {x : Array Value} {vs : List Value} {t : TypeId} (hvs : VRs S β cs vs) (hx : ∀ (j : Nat) (v : Value), vs[j]? = some v → x[j]? = some v)
    (hrun : (execOp a.eval o).run P w = .ok (.value (.pointer (some ⟨w.heap.size, 0, none⟩))) (w.alloc (.cells x t))) : After P c N (UG U gid) (.ok (e.upd o.dst (.ofV (.ip cs))) h) o a w := by
  have H2 := H.allocS x t x.size
  refine After.val hrun (Sat.up ⟨_, β, γ, lam, ω, H2.setV hd ?_⟩)
  simp only [VR]
  refine ⟨w.heap.size, 0, vs, rfl, hvs.mono (fun k o v hv => ?_) (Ext.refl β), fun j v hj => ?_⟩
  · unfold Stab.withRowTo
    split
    · rename_i hk; subst hk; rw [H.wf.none (Nat.le_refl _)] at hv; simp at hv
    · exact hv
  · have := hx j v hj
    unfold Stab.withRowTo
    rw [if_pos rfl, Nat.zero_add, if_pos]
    · exact this
    · rcases Nat.lt_or_ge j x.size with h | h
      · exact h
      · rw [Array.getElem?_eq_none h] at this; simp at this
theorem newH_op (H : FR c N U e h a w S β γ lam ω) (hd : ∀ t, o.dst = some t → t < N) {cs : List AV} {x : Array Value} {vs : List Value} {t : TypeId} (hvs : VRs S β cs vs) (hx : ∀ (j : Nat) (v : Value), vs[j]? = some v → x[j]? = some v)
    (hrun : (execOp a.eval o).run P w = .ok (.value (.pointer (some ⟨w.heap.size, 0, none⟩))) (w.alloc (.cells x t))) (hr : runAct e o.dst (.dyn (newH cs) .ofV) h ≠ .fail) : After P c N (UG U gid) (runAct e o.dst (.dyn (newH cs) .ofV) h) o a w := by
  have hcs : cs ≠ [] := by
    rintro rfl
    exact hr rfl
  have hemp : (cs.isEmpty || cs.any isNilb) = false := by
    cases hq : (cs.isEmpty || cs.any isNilb) with
    | false => rfl
    | true =>
      exfalso
      apply hr
      simp only [runAct, bnd, newH, hq, cond_true]
  have hnb := nob_any (Bool.or_eq_false_iff.1 hemp).2
  have htake : VRs S β cs (x.toList.take cs.length) := by
    refine .of_get ?_ fun i y v hy hv => ?_
    · have hl := hvs.length
      rw [List.length_take]
      have : cs.length ≤ x.size := by
        rcases Nat.eq_zero_or_pos cs.length with h0 | h0
        · omega
        · obtain ⟨v, hv, _⟩ := hvs.allR (cs.length - 1) (by omega)
          have := hx _ _ hv
          rcases Nat.lt_or_ge (cs.length - 1) x.size with h | h
          · omega
          · rw [Array.getElem?_eq_none h] at this; simp at this
      simp; omega
    · obtain ⟨u, hu, hur⟩ := hvs.get hy
      have := hx i u hu
      rw [List.getElem?_take] at hv
      split at hv
      · rw [Array.getElem?_toList, this] at hv
        cases hv; exact hur
      · simp at hv
  obtain ⟨ω', F, hnew, _⟩ := H.newH x t htake (fun t ht => absurd ht (hnb t))
  have hx0 : x.size ≠ 0 := by
    have h1 := htake.length
    have h2 := List.length_pos_iff.2 hcs
    simp only [List.length_take, Array.length_toList] at h1
    omega
  simp only [runAct, bnd, newH, hemp, cond_false, M.pure]
  refine After.val hrun (Sat.up ⟨_, _, γ, lam, ω', F.setV hd ?_⟩)
  simp only [VR]
  exact ⟨_, hnew, hx0, rfl⟩
theorem newB_op (H : FR c N U e h a w S β γ lam ω) (hd : ∀ t, o.dst = some t → t < N) {cs : List AV} {x : Array Value} {t : TypeId} (hvs : VRs S β cs x.toList)
    (hrun : (execOp a.eval o).run P w = .ok (.value (.pointer (some ⟨w.heap.size, 0, none⟩))) (w.alloc (.cells x t))) (hr : runAct e o.dst (.dyn (newB t cs) .ofV) h ≠ .fail) : After P c N (UG U gid) (runAct e o.dst (.dyn (newB t cs) .ofV) h) o a w := by
  simp only [runAct, bnd, newB, M.pure] at hr ⊢
  split at hr
  · rename_i h1 hm
    split at hm
    · rename_i r
      cases hq : r.any isNilb with
      | true => rw [hq] at hm; cases hm
      | false =>
        rw [hq] at hm
        simp only [cond_false, R.ok.injEq] at hm
        obtain ⟨rfl, rfl⟩ := hm
        have htake : VRs S β (.nilb t :: r) (x.toList.take (AV.nilb t :: r).length) := by
          have hl := hvs.length
          rw [show (AV.nilb t :: r).length = x.toList.length by rw [hl]; rfl, List.take_length]
          simp only [VRs, VR] at hvs ⊢
          exact hvs
        obtain ⟨ω', F, hnew, _⟩ := H.newH x t htake (fun t' ht' => by
          rcases ht'.cons with h | h
          · simpa [tagOf] using h.symm
          · exact absurd h (nob_any hq t'))
        have hx0 : x.size ≠ 0 := by
          have hl := hvs.length
          simp at hl
          omega
        refine After.val hrun (Sat.up ⟨_, _, γ, lam, ω', F.setV hd ?_⟩)
        simp only [VR]
        exact ⟨_, hnew, hx0, rfl⟩
    · cases hm
  · rename_i hm
    split at hm
    · rename_i r
      revert hm
      cases r.any isNilb <;> simp
    · cases hm
  · exact absurd rfl hr
omit [Dr] in
theorem alloc_run (hT : TOK P cx.T) {t : Nat} {ti : TI} (ht : cx.T t = some ti) : ∃ z : Value, (Instr.alloc t true (.tuple #[])).run P w = .ok (.pointer (some ⟨w.heap.size, 0, none⟩)) (w.alloc (.cells z.cells t)) ∧ z.cells.size = ti.size ∧
    (∀ told, VRs S β (zerosOf told ti) z.cells.toList) := by
  obtain ⟨i, d, z, hi, hd, hz, hzs, hsz, _⟩ := (hT.get ht).ex
  refine ⟨z, ?_, by omega, fun told => zerosOf_ok hT ht told hi hz⟩
  simp [Instr.alloc, zeroValue, typeInfo, hi, hz, newVar, newRow]
theorem alloc_op (hT : TOK P cx.T) (H : FR c N U e h a w S β γ lam ω) (hd : ∀ t, o.dst = some t → t < N) (hU : ∀ g, gid ≤ g → g < gid + 1000 → ¬ U g) {t : Nat} (ho : o.op = .alloc t) (hr : runOp cx e gid o h ≠ .fail) :
    After P c N (UG U gid) (runOp cx e gid o h) o a w := by
  unfold runOp opD at hr ⊢
  rw [ho] at hr ⊢
  simp only at hr ⊢
  cases hdst : o.dst with
  | none => rw [hdst] at hr; exact absurd rfl hr
  | some s =>
    rw [hdst] at hr
    simp only at hr ⊢
    unfold opAlloc at hr ⊢
    cases ht : cx.T t with
    | none => rw [ht] at hr; exact absurd rfl hr
    | some ti =>
      rw [ht] at hr
      simp only at hr ⊢
      obtain ⟨z, hrun, hzs, hz⟩ := alloc_run (w := w) (S := S) (β := β) hT ht
      have hexec : (execOp a.eval o).run P w = .ok (.value (.pointer (some ⟨w.heap.size, 0, none⟩))) (w.alloc (.cells z.cells t)) := by
        simp only [execOp, ho, Sem.run_bind, hrun, Result.andThen_ok, Sem.run_pure]
      have hL : ∀ A : Act1, A = (bif decide (ti.size < 1000) && locFree e.sl (lbase s) && nilsAt (zerosOf true ti) (findN cx.ann.nils s) ti.size then
          .stat { ent := ⟨.loc (lbase s) 0, none⟩, ls := lsOf (lbase s) (zerosOf (memN cx.ann.hb s) ti) (findN cx.ann.nils s) gid ti.size, add := gsOf (findN cx.ann.nils s) gid, lb := some (lbase s, ti.size) } else .bad) →
          runAct e (some s) A h ≠ .fail → After P c N (UG U gid) (runAct e (some s) A h) o a w := by
        rintro A rfl hr
        cases hcond : (decide (ti.size < 1000) && locFree e.sl (lbase s) && nilsAt (zerosOf true ti) (findN cx.ann.nils s) ti.size) with
        | false => rw [hcond] at hr; exact absurd rfl hr
        | true =>
          simp only [cond_true]
          simp only [Bool.and_eq_true, decide_eq_true_eq] at hcond
          obtain ⟨⟨h1, h2⟩, h3⟩ := hcond
          obtain ⟨lam', ω', F⟩ := H.allocL (s := s) (n := ti.size) (gid := gid) (x := z.cells) (t := t) (cs := zerosOf (memN cx.ann.hb s) ti) (offs := findN cx.ann.nils s) (hd s hdst) hU h1 (fun i hi => by
              have hzz := hz (memN cx.ann.hb s)
              have hl := hzz.length
              obtain ⟨v, v1, v2⟩ := hzz.allR i (by rw [← hl]; simpa [hzs] using hi)
              exact ⟨v, by simpa using v1, v2⟩) (fun i hi => by
              unfold nilsAt at h3
              rw [List.all_eq_true] at h3
              have := h3 i hi
              rw [Bool.and_eq_true] at this
              have hn := isHn_inv this.2
              have hlt : i < ti.size := by simpa using this.1
              have hzz := hz true
              have hl := hzz.length
              obtain ⟨v, v1, v2⟩ := hzz.allR i (by rw [← hl]; simpa [hzs] using hlt)
              rw [hn] at v2
              simp only [VR] at v2
              subst v2
              exact ⟨hlt, by simpa using v1⟩) h2
          refine After.val hexec ?_
          rw [hdst]
          exact ⟨_, _, _, _, _, F⟩
      cases hk : findK cx.ann.kinds s .L with
      | F =>
        simp only
        rw [← hdst]
        exact boxF H hd (hz false) (fun j v hj => by simpa using hj) hexec
      | H =>
        simp only
        rw [← hdst]
        exact newH_op H hd (hz _) (fun j v hj => by simpa using hj) hexec (by rw [hdst]; simpa only [hk] using hr)
      | B =>
        simp only
        rw [hk] at hr
        rw [← hdst] at hr ⊢
        exact newB_op H hd (hz _) hexec hr
      | L => rw [hk] at hr; exact hL _ rfl hr
      | S => rw [hk] at hr; exact hL _ rfl hr
theorem box_op (H : FR c N U e h a w S β γ lam ω) (hd : ∀ t, o.dst = some t → t < N) (hU : ∀ g, gid ≤ g → g < gid + 1000 → ¬ U g) {t : Nat} {x : Operand} (ho : o.op = .box t x) (hx : ∀ t, x = .tmp t → t < 1000) (hr : runOp cx e gid o h ≠ .fail) :
    After P c N (UG U gid) (runOp cx e gid o h) o a w := by
  unfold runOp opD at hr ⊢
  rw [ho] at hr ⊢
  simp only at hr ⊢
  cases hdst : o.dst with
  | none => rw [hdst] at hr; exact absurd rfl hr
  | some s =>
    rw [hdst] at hr
    simp only at hr ⊢
    have hv := opnd_ok H x hx
    have hexec : (execOp a.eval o).run P w = .ok (.value (.pointer (some ⟨w.heap.size, 0, none⟩))) (w.alloc (.cells (a.eval x).cells t)) := by
      simp [execOp, ho, Instr.box, newVar, newRow]
    obtain ⟨vs, hvs, hvx⟩ := hv.acells
    have hL : ∀ A : Act1, A = (match cx.T t with
        | none => .bad
        | some ti => bif decide (ti.size < 1000) && locFree e.sl (lbase s) then
            .dyn (cellsM ti.size (opnd e x)) fun v => { ent := ⟨.loc (lbase s) 0, none⟩, ls := lsOf (lbase s) (acells v) [] 0 ti.size, lb := some (lbase s, ti.size) }
          else .bad) → runAct e (some s) A h ≠ .fail → After P c N (UG U gid) (runAct e (some s) A h) o a w := by
      rintro A rfl hr
      cases ht : cx.T t with
      | none => rw [ht] at hr; exact absurd rfl hr
      | some ti =>
        rw [ht] at hr
        simp only at hr ⊢
        cases hcond : (decide (ti.size < 1000) && locFree e.sl (lbase s)) with
        | false => rw [hcond] at hr; exact absurd rfl hr
        | true =>
          rw [hcond] at hr
          simp only [cond_true] at hr ⊢
          simp only [Bool.and_eq_true, decide_eq_true_eq] at hcond
          obtain ⟨h1, h2⟩ := hcond
          unfold cellsM at hr ⊢
          cases hcs : cellsN ti.size (opnd e x) with
          | none => rw [hcs] at hr; exact absurd rfl hr
          | some cs =>
            obtain ⟨_, k2, k3, _⟩ := cellsN_ok hcs hv
            obtain ⟨lam', ω', F⟩ := H.allocL (s := s) (n := ti.size) (gid := gid) (x := (a.eval x).cells) (t := t) (cs := cs) (offs := []) (hd s hdst) hU h1 (fun i hi => by
              obtain ⟨v, v1, v2⟩ := k3.allR i (by rw [← k3.length]; simpa [k2] using hi)
              exact ⟨v, by simpa using v1, v2⟩) (fun i hi => by simp at hi) h2
            refine After.val hexec ?_
            rw [hdst]
            have hls : lsOf (lbase s) cs [] 0 ti.size = lsOf (lbase s) cs [] gid ti.size := by simp [lsOf, memN]
            have hac : acells (.agg cs) = cs := rfl
            simp only [hac, hls]
            exact ⟨_, _, _, _, _, F⟩
    unfold opBox at hr ⊢
    cases hk : findK cx.ann.kinds s .F with
    | F =>
      simp only
      rw [← hdst]
      exact boxF H hd hvs (fun j v hj => by simpa using hvx j v hj) hexec
    | H =>
      simp only
      rw [← hdst]
      exact newH_op H hd hvs (fun j v hj => by simpa using hvx j v hj) hexec (by rw [hdst]; simpa only [hk] using hr)
    | B => rw [hk] at hr; exact absurd rfl hr
    | L => rw [hk] at hr; exact hL _ rfl hr
    | S => rw [hk] at hr; exact hL _ rfl hr
theorem setLoc (H : FR c N U e h a w S β γ lam ω) (hd : ∀ t, o.dst = some t → t < N) {B b off : Nat} (hlam : lam B = some b) (hrun : (execOp a.eval o).run P w = .ok (.value (.pointer (some ⟨b, off, none⟩))) w) :
    After P c N (UG U gid) (.ok (e.upd o.dst { ent := ⟨.loc B off, none⟩ }) h) o a w :=
  After.val hrun (Sat.up ⟨S, β, γ, lam, ω, H.set hd (by simp only [SlotR]; exact ⟨b, hlam, rfl⟩) (fun _ _ h => by cases h) (fun _ h => by cases h)⟩)
theorem fieldAddr_op (hT : TOK P cx.T) (H : FR c N U e h a w S β γ lam ω) (hd : ∀ t, o.dst = some t → t < N) {t f : Nat} {x : Operand} (ho : o.op = .fieldAddr t x f) (hx : ∀ t, x = .tmp t → t < 1000) (hr : runOp cx e gid o h ≠ .fail) :
    After P c N (UG U gid) (runOp cx e gid o h) o a w := by
  unfold runOp opD at hr ⊢
  rw [ho] at hr ⊢
  cases x <;> simp only at hr ⊢ <;> (try exact absurd rfl hr)
  rename_i p
  have hp := H.slots p (hx p rfl)
  unfold opField at hr ⊢
  cases hv : (e.get p).v with
  | loc B off =>
    rw [hv] at hr hp
    simp only at hr ⊢
    simp only [SlotR] at hp
    obtain ⟨b, hlam, hpv⟩ := hp
    cases ht : cx.T t with
    | none => rw [ht] at hr; exact absurd rfl hr
    | some ti =>
      rw [ht] at hr
      simp only at hr ⊢
      cases hf : ti.offs[f]? with
      | none => rw [hf] at hr; exact absurd rfl hr
      | some q =>
        obtain ⟨o', ft, nm⟩ := q
        rw [hf] at hr
        simp only at hr ⊢
        cases hft : cx.T ft with
        | none => rw [hft] at hr; exact absurd rfl hr
        | some fi =>
          rw [hft] at hr
          simp only at hr ⊢
          cases hz : decide (fi.size = 0) with
          | true => rw [hz] at hr; exact absurd rfl hr
          | false =>
            simp only [cond_false]
            have hfa : fieldAddrA cx.T t (.hp 0 off) f = some (.hp 0 (off + o')) := by
              unfold fieldAddrA
              rw [ht]
              simp only
              rw [hf]
              simp only
              rw [hft]
              simp only
              rw [if_neg (by simpa using hz)]
            obtain ⟨v, h1, h2⟩ := fieldAddr_ok (P := P) (w := w) (S := S) (β := [(b, 1)]) hT hfa (vx := .pointer (some ⟨b, off, none⟩)) (by simp [VR])
            simp only [VR] at h2
            obtain ⟨b', hb', _, rfl⟩ := h2
            simp only [List.getElem?_cons_zero, Option.some.injEq] at hb'; subst hb'
            refine setLoc H hd hlam ?_
            have he : a.eval (.tmp p) = .pointer (some ⟨b, off, none⟩) := hpv
            simp only [execOp, ho, he, Sem.run_bind, h1, Result.andThen_ok, Sem.run_pure]
  | val av =>
    rw [hv] at hr hp
    simp only at hr ⊢
    refine pure_op H hd (m := Instr.fieldAt t (a.eval (.tmp p)) f) (by simp [execOp, ho]) (fun r hr' => fieldAddr_ok hT hr' hp) hr
theorem indexAddr_op (hT : TOK P cx.T) (H : FR c N U e h a w S β γ lam ω) (hd : ∀ t, o.dst = some t → t < N) {t : Nat} {x i : Operand} (ho : o.op = .indexAddr t x i) (hx : ∀ t, x = .tmp t → t < 1000) (hi : ∀ t, i = .tmp t → t < 1000) (hr : runOp cx e gid o h ≠ .fail) :
    After P c N (UG U gid) (runOp cx e gid o h) o a w := by
  unfold runOp opD at hr ⊢
  rw [ho] at hr ⊢
  cases x <;> simp only at hr ⊢ <;> (try exact absurd rfl hr)
  rename_i p
  have hp := H.slots p (hx p rfl)
  unfold opIndexAddr at hr ⊢
  cases hv : (e.get p).v with
  | loc B off =>
    rw [hv] at hr hp
    simp only at hr ⊢
    simp only [SlotR] at hp
    obtain ⟨b, hlam, hpv⟩ := hp
    cases ht : cx.T t with
    | none => rw [ht] at hr; exact absurd rfl hr
    | some ti =>
      rw [ht] at hr
      cases hci : constInt i with
      | none => rw [hci] at hr; exact absurd rfl hr
      | some n =>
      rw [hci] at hr
      simp only at hr ⊢
      obtain ⟨ik, rfl⟩ : ∃ ik, i = .const (.int ik n) := by
        unfold constInt at hci
        split at hci
        · simp only [Option.some.injEq] at hci; subst hci; exact ⟨_, rfl⟩
        · simp at hci
      cases hk : ti.kind <;> rw [hk] at hr <;> simp only at hr ⊢ <;> (try exact absurd rfl hr)
      rename_i m el
      cases hel : cx.T el with
      | none => rw [hel] at hr; exact absurd rfl hr
      | some ei =>
        rw [hel] at hr
        simp only at hr ⊢
        cases hc : decide (0 ≤ n ∧ n < m) with
        | false => rw [hc] at hr; exact absurd rfl hr
        | true =>
          simp only [cond_true]
          have hia : indexAddrA cx.T t (.hp 0 off) (.int ik n) = some (.hp 0 (off + n.toNat * ei.size)) := by
            unfold indexAddrA
            rw [ht]
            simp only
            rw [hk]
            simp only
            rw [hel]
            simp only
            rw [if_pos (by simpa using hc)]
          obtain ⟨v, h1, h2⟩ := indexAddr_ok (P := P) (w := w) (S := S) (β := [(b, 1)]) hT hia (vx := .pointer (some ⟨b, off, none⟩)) (vi := .int ik n) (by simp [VR]) (by simp [VR])
          simp only [VR] at h2
          obtain ⟨b', hb', _, rfl⟩ := h2
          simp only [List.getElem?_cons_zero, Option.some.injEq] at hb'; subst hb'
          refine setLoc H hd hlam ?_
          have he : a.eval (.tmp p) = .pointer (some ⟨b, off, none⟩) := hpv
          have hei : a.eval (.const (.int ik n)) = .int ik n := rfl
          simp only [execOp, ho, he, hei, Sem.run_bind, h1, Result.andThen_ok, Sem.run_pure]
  | val av =>
    rw [hv] at hr hp
    simp only at hr ⊢
    refine pure_op H hd (m := Instr.indexAt t (a.eval (.tmp p)) (a.eval i)) (by simp [execOp, ho]) (fun r hr' => indexAddr_ok hT hr' hp (opnd_ok H i hi)) hr
theorem nilCheck_op (H : FR c N U e h a w S β γ lam ω) (hd : ∀ t, o.dst = some t → t < N) {x : Operand} (ho : o.op = .nilCheck x) (hx : ∀ t, x = .tmp t → t < 1000) (hr : runOp cx e gid o h ≠ .fail) :
    After P c N (UG U gid) (runOp cx e gid o h) o a w := by
  unfold runOp opD at hr ⊢
  rw [ho] at hr ⊢
  cases x <;> simp only at hr ⊢ <;> (try exact absurd rfl hr)
  rename_i p
  have hp := H.slots p (hx p rfl)
  cases hv : (e.get p).v with
  | loc B off =>
    have hp2 := hp
    rw [hv] at hr hp
    simp only at hr ⊢
    simp only [SlotR] at hp
    obtain ⟨b, hlam, hpv⟩ := hp
    have he : a.eval (.tmp p) = .pointer (some ⟨b, off, none⟩) := hpv
    exact copy_op H hd (hx p rfl) (by simp [execOp, ho, he, hpv])
  | val av =>
    rw [hv] at hr hp
    simp only at hr ⊢
    have he : a.eval (.tmp p) = a.tmps.getD p undef := rfl
    cases hn : nilChkA av with
    | none => rw [hn] at hr; exact absurd rfl hr
    | some r =>
      have hrun : (execOp a.eval o).run P w = .ok (.value (a.tmps.getD p undef)) w ∧ r = av := by
        simp only [SlotR] at hp
        unfold nilChkA at hn
        split at hn <;> simp only [Option.some.injEq, reduceCtorEq] at hn <;> subst hn <;> simp only [VR] at hp
        · obtain ⟨b, off, vs, hpv, _⟩ := hp
          exact ⟨by simp [execOp, ho, he, hpv], rfl⟩
        · obtain ⟨b, hb, hpv⟩ := hp
          exact ⟨by simp [execOp, ho, he, hpv], rfl⟩
        · obtain ⟨y, hpv, _⟩ := hp
          exact ⟨by simp [execOp, ho, he, hpv], rfl⟩
        · obtain ⟨y, z, hpv, _⟩ := hp
          exact ⟨by simp [execOp, ho, he, hpv], rfl⟩
      obtain ⟨hrun, rfl⟩ := hrun
      exact After.val hrun (Sat.up ⟨S, β, γ, lam, ω, H.setV hd hp⟩)
end
end Go.Av

/- One operation: calls and appends. Conditions: the table of types is the program's; the calls are right. -/
namespace Go.Av
variable [Dr]
section
variable {P : Program} {cx : Cx} {c : Entry} {N : Nat} {U : Nat → Prop} {e : Env} {h : Hp} {a : Act} {w : World} {S : Stab} {β : List Blk} {γ : Nat → Value} {lam : Nat → Option Nat} {ω : Nat → Owner} {o : Oper} {gid : Nat}
theorem FR.out' (H : FR c N U e h a w S β γ lam ω) {S' : Stab} {β' : List Blk} {w' : World} {h' : Hp} (L : Left (HOwn β h) S β w S' β' w' h') : Out c h' w' S' β' := by
  obtain ⟨ω', F, _⟩ := H.left L
  exact F.out
theorem call_after (hC : CallsOK P cx.own cx.call) (H : FR c N U e h a w S β γ lam ω) (hd : ∀ t, o.dst = some t → t < N) (hU : ∀ g, gid ≤ g → g < gid + 1000 → ¬ U g) {f : FuncId} {args : List AV} {vs : List Value} (hargs : VRs S β args vs)
    (hrun : (P.funcs[f]?).any (fun fn => fn.body.isSome && !(fn.name == "runtime.NumGoroutine")) = true → (execOp a.eval o).run P w = .ok (.enter f vs.toArray) w) {sh : AV → Upd}
    (hsh : (∀ v, sh v = .ofV v) ∨ ∃ sz, cx.own f = some sz ∧ ∀ v, sh v = .own v gid (some sz))
    (hr : (bnd (cx.call f args) fun v => M.pure (e.upd o.dst (sh v))) h ≠ .fail) : After P c N (UG U gid) ((bnd (cx.call f args) fun v => M.pure (e.upd o.dst (sh v))) h) o a w := by
  have hne : cx.call f args h ≠ .fail := by
    intro hf
    unfold bnd at hr
    rw [hf] at hr
    exact hr rfl
  obtain ⟨hcalls, hfn⟩ := hC f args h S β w vs hne H.gok H.wf H.heapX hargs
  have hrun := hrun hfn
  intro next Q hn hp
  unfold Oper.wp
  rw [hrun]
  simp only [Oper.upon]
  refine hcalls.mono fun en w' hpost => ?_
  unfold bnd at hn hp
  cases hres : cx.call f args h with
  | fail => exact absurd hres hne
  | pan pv h' =>
    rw [hres] at hpost hp
    obtain ⟨S', β', v, rfl, hv, hleft⟩ := hpost
    exact hp pv h' v w' rfl ⟨S', β', H.out' hleft, hv⟩
  | ok rv h' =>
    rw [hres] at hpost hn
    obtain ⟨S', β', v, rfl, hv, hleft, hown⟩ := hpost
    obtain ⟨ω', F, hno⟩ := H.left hleft
    refine hn (e.upd o.dst (sh rv)) h' _ _ rfl ?_ (put_defers a o.dst v)
    rcases hsh with hsh | ⟨sz, hof, hsh⟩
    · rw [hsh]; exact Sat.up ⟨_, _, _, _, _, F.setV hd hv⟩
    · rw [hsh]
      obtain ⟨ad, len, cap, rfl, h1, h2, h3⟩ := hown sz hof
      obtain ⟨ω2, F2⟩ := F.own (z := some sz) hd hv hU (by
        rcases h3 with h3 | ⟨b, off, x, rfl, g1, g2, g3, g4, g5⟩
        · subst h3; exact .inl ⟨ad, len, rfl, h2⟩
        · exact .inr ⟨len, cap, sz, b, off, x, rfl, h1, rfl, g1, g2, hno b g3 g4, Nat.le_trans H.size g3, g5⟩)
      exact ⟨_, _, _, _, ω2, F2⟩
omit [Dr] in
theorem callFunc_run {f : FuncId} {args : Array Value} (hf : (P.funcs[f]?).any (fun fn => fn.body.isSome && !(fn.name == "runtime.NumGoroutine")) = true) : (callFunc f args).run P w = .ok (.enter f args) w := by
  cases hfn : P.funcs[f]? with
  | none => rw [hfn] at hf; simp at hf
  | some fn =>
    rw [hfn] at hf
    simp only [Option.any_some, Bool.and_eq_true, Bool.not_eq_true'] at hf
    obtain ⟨h1, h2⟩ := hf
    have h3 : fn.body.isNone = false := by cases hb : fn.body <;> simp_all
    simp only [callFunc, Sem.run_bind, run_program, Result.andThen_ok, hfn, h2, Bool.false_eq_true, if_false, h3, Sem.run_pure]
omit [Dr] in
theorem free_room {z : Option Nat} {g sz : Nat} {v : Value} (hf : FreeR S w ω g z v) (hz : szOk z (some sz) = true) : RoomOf w sz v ∧ (z = none ∨ z = some sz) := by
  have hz' : z = none ∨ z = some sz := by
    unfold szOk at hz
    cases z with
    | none => exact .inl rfl
    | some n => simp only at hz; exact .inr (by rw [Nat.eq_of_beq_eq_true hz])
  refine ⟨?_, hz'⟩
  obtain ⟨ad, len, cap, h1, h2, h3, h4⟩ := hf
  refine ⟨ad, len, cap, h1, h2, h3, h4.imp id ?_⟩
  rintro ⟨sz', b, off, x, g1, g2, g3, g4, _⟩
  rcases hz' with rfl | rfl
  · cases g1
  · cases g1; exact ⟨b, off, x, g2, g3, g4⟩
omit [Dr] in
theorem appA_inv {T : TT} {t : Nat} {as : List AV} {y r : AV} (h : appA T t (.sl as) y = some r) : ∃ ti e ei bs, T t = some ti ∧ ti.kind = .slice e ∧ T e = some ei ∧ elsOf y = some bs ∧ okSz ei.size as = true ∧ okSz ei.size bs = true ∧
    (as.length + bs.length) * ei.bytes ≤ 140737488355328 ∧ 0 < ei.bytes ∧ r = .sl (as ++ bs) ∧ elemSize T t = some ei.size ∧ strOk y ei.size = true := by
  unfold appA at h
  cases ht : T t with
  | none => rw [ht] at h; simp at h
  | some ti =>
    rw [ht] at h
    simp only at h
    split at h
    · rename_i e hk
      cases he : T e with
      | none => rw [he] at h; simp at h
      | some ei =>
        rw [he] at h
        simp only at h
        cases hb : elsOf y with
        | none => rw [hb] at h; simp at h
        | some bs =>
          rw [hb] at h
          simp only at h
          cases hc : (okSz ei.size as && okSz ei.size bs && decide ((as.length + bs.length) * ei.bytes ≤ 140737488355328) && decide (0 < ei.bytes) && strOk y ei.size) with
          | false => rw [hc] at h; simp at h
          | true =>
            rw [hc] at h
            simp only [cond_true, Option.some.injEq] at h
            simp only [Bool.and_eq_true, decide_eq_true_eq] at hc
            obtain ⟨⟨⟨⟨h1, h2⟩, h3⟩, h4⟩, h5⟩ := hc
            exact ⟨ti, e, ei, bs, rfl, hk, he, rfl, h1, h2, h3, h4, h.symm, by simp [elemSize, ht, hk, he], h5⟩
    · simp at h
omit [Dr] in
theorem appA_sl {T : TT} {t : Nat} {x y r : AV} (h : appA T t x y = some r) : ∃ as, x = .sl as := by
  unfold appA at h
  split at h
  · simp at h
  · split at h
    · split at h
      · simp at h
      · split at h
        · exact ⟨_, rfl⟩
        · simp at h
    · simp at h
omit [Dr] in
theorem strOk_inv {y : AV} {n : Nat} (h : strOk y n = true) : ∀ s, y = .str s → n = 1 := by
  rintro s rfl
  exact Nat.eq_of_beq_eq_true h
omit [Dr] in
theorem append_exec {t u : TypeId} {x y : Operand} {cc : Call} (ho : o.op = .call cc) (hb : cc.callee = .builtin .append) (ht : cc.argTypes.toList = [t, u]) (hx : cc.args.toList = [x, y]) {v : Value} {w' : World}
    (hrun : (Builtin.append_ #[t, u] o.type #[a.eval x, a.eval y]).run P w = .ok v w') : (execOp a.eval o).run P w = .ok (.value v) w' := by
  have h1 : cc.argTypes = #[t, u] := by apply Array.ext'; simpa using ht
  have h2 : cc.args = #[x, y] := by apply Array.ext'; simpa using hx
  have h3 : cc.args.map a.eval = #[a.eval x, a.eval y] := by rw [h2]; simp
  simp only [execOp, ho, resolve, hb, Sem.run_bind, Sem.run_pure, Result.andThen_ok, invoke, builtin, h1, h3, hrun]
omit [Dr] in
theorem flat_chunks {ag : Bool} {sz : Nat} (hs : ag = true ∨ sz = 1) : ∀ (n : Nat) (cs : List AV) (vs : List Value), VRs S β cs vs → n * sz ≤ cs.length → (cs.take (n * sz)).all okCell = true → FlatEls S β (chunksA ag sz n cs) (vs.take (n * sz)) sz
  | 0, cs, vs, _, _, _ => by rw [Nat.zero_mul, List.take_zero]; exact .nil sz
  | n + 1, cs, vs, hv, hl, hok => by
    have hm : (n + 1) * sz = sz + n * sz := by rw [Nat.add_mul, Nat.one_mul, Nat.add_comm]
    have hle : sz ≤ cs.length := by omega
    have hvl := hv.length
    have h1 : FlatEls S β [bif ag then .agg (cs.take sz) else nth cs 0] (vs.take sz) sz := by
      have hcl : (vs.take sz).length = sz := by simp; omega
      have hone : ∀ (c : AV) (x : Value) (j : Nat), j < sz → cs[j]? = some c → vs[j]? = some x → x.cells = #[x] ∧ x.oneCell' = true := fun c x j hj hc hx => by
        obtain ⟨y, hy, hr⟩ := hv.get hc
        rw [hx] at hy
        cases hy
        refine okCell_ok (List.all_eq_true.1 hok c (List.mem_of_getElem? (i := j) ?_)) hr
        rw [List.getElem?_take, if_pos (by omega)]
        exact hc
      have hex : ∀ (j : Nat) (x : Value), j < sz → vs[j]? = some x → ∃ c, cs[j]? = some c := fun j x hj hx => ⟨_, List.getElem?_eq_getElem (by omega)⟩
      refine ⟨by rw [hcl]; simp, fun i e he => ?_, fun x hx => ?_⟩
      · cases i with
        | succ i => simp at he
        | zero =>
          simp only [List.getElem?_cons_zero, Option.some.injEq] at he
          subst he
          cases ag with
          | true =>
            refine ⟨.agg (vs.take sz).toArray, by simp only [cond_true, VR]; exact ⟨_, rfl, hv.take sz⟩, by simp [Value.cells]; omega, fun j x hx => ?_⟩
            simpa [Value.cells] using hx
          | false =>
            rcases hs with hs | hs
            · cases hs
            · subst hs
              have hc0 : cs[0]? = some (nth cs 0) := by
                unfold nth
                rw [List.getElem?_eq_getElem (by omega), List.getD_eq_getElem?_getD, List.getElem?_eq_getElem (by omega)]
                rfl
              obtain ⟨y, hy, hr⟩ := hv.get hc0
              have ho := hone _ y 0 (by omega) hc0 hy
              refine ⟨y, hr, by rw [ho.1]; rfl, fun j x hx => ?_⟩
              rw [ho.1] at hx
              cases j with
              | succ j => simp at hx
              | zero =>
                simp only [List.getElem?_toArray, List.getElem?_cons_zero, Option.some.injEq] at hx
                subst hx
                simp only [Nat.zero_mul, Nat.zero_add, List.getElem?_toArray]
                rw [List.getElem?_take, if_pos (by omega)]
                exact hy
      · obtain ⟨j, hj⟩ := List.getElem?_of_mem hx
        rw [List.getElem?_take] at hj
        split at hj
        · rename_i hlt
          obtain ⟨c, hc⟩ := hex j x hlt hj
          exact (hone c x j hlt hc hj).2
        · simp at hj
    have h2 := flat_chunks hs n (cs.drop sz) (vs.drop sz) (hv.drop sz) (by simp; omega) (by
      rw [List.all_eq_true] at hok ⊢
      intro x hx
      obtain ⟨j, hj⟩ := List.getElem?_of_mem hx
      rw [List.getElem?_take] at hj
      split at hj
      · rename_i hlt
        rw [List.getElem?_drop] at hj
        refine hok x (List.mem_of_getElem? (i := sz + j) ?_)
        rw [List.getElem?_take, if_pos (by omega)]
        exact hj
      · simp at hj)
    have := h1.append h2
    rw [hm, List.take_add]
    exact this
def SrcOK (P : Program) (S : Stab) (β : List Blk) (w : World) (v : Value) (Y : AV) : Prop :=
  ∀ (sz : Nat) (bs : List AV), elsOf Y = some bs → okSz sz bs = true → (∀ s, Y = .str s → sz = 1) → (Builtin.lenOf v).run P w = .ok bs.length w ∧ ∃ cs : List Value, FlatEls S β bs cs sz ∧
    ∀ w' : World, (∀ a : Addr, w'.cell? a = w.cell? a) → (Builtin.firstCells sz bs.length v).run P w' = .ok cs.toArray w'
omit [Dr] in
theorem srcOK_vr {Y : AV} {v : Value} (hw : Wf S w) (hv : VR S β Y v) : SrcOK P S β w v Y := fun sz bs he hok hs => by
  obtain ⟨h1, cs, h2, h3⟩ := src_ok (P := P) hw he hv hok hs
  exact ⟨h1, cs, h2, fun w' hw' => h3 w' fun b o x hx => by rw [hw']; exact hw b o x hx⟩
omit [Dr] in
theorem chunks_len (ag : Bool) (sz : Nat) : ∀ (n : Nat) (cs : List AV), (chunksA ag sz n cs).length = n
  | 0, _ => rfl
  | n + 1, cs => by simp [chunksA, chunks_len ag sz n]
theorem srcOK_heap (H : FR c N U e h a w S β γ lam ω) {Y : AV} {v : Value} {es : List AV} (hv : VR S β Y v) (hsrc : srcA h Y = some es) : SrcOK P S β w v (.sl es) := fun sz' bs he hok _ => by
  simp only [elsOf, Option.some.injEq] at he
  subst he
  unfold srcA at hsrc
  split at hsrc
  · rename_i l off len sz ag
    cases hcs : h[l]? with
    | none => rw [hcs] at hsrc; cases hsrc
    | some cs =>
      rw [hcs] at hsrc
      simp only at hsrc
      cases hb : ((ag || Nat.beq sz 1) && decide (off + len * sz ≤ cs.length) && ((cs.drop off).take (len * sz)).all okCell) with
      | false => rw [hb] at hsrc; cases hsrc
      | true =>
        rw [hb] at hsrc
        simp only [cond_true, Option.some.injEq] at hsrc
        subst hsrc
        simp only [Bool.and_eq_true, decide_eq_true_eq, Bool.or_eq_true] at hb
        obtain ⟨⟨h1, h2⟩, h3⟩ := hb
        have hag : ag = true ∨ sz = 1 := h1.imp id Nat.eq_of_beq_eq_true
        rw [chunks_len]
        rcases Nat.eq_zero_or_pos len with rfl | h0
        · obtain ⟨q, cap, rfl, _⟩ := hv.hs_some
          exact ⟨rfl, [], by simp only [chunksA]; exact .nil sz', fun w' _ => run_firstCells_some w' sz' 0 q 0 cap [] (by simp) fun j x hx => by simp at hx⟩
        · obtain ⟨⟨b', nb⟩, cap, hβ, hb0, rfl, hlc, hcn⟩ := hv.hs_pos h0
          have hne : cs ≠ [] ∨ sz = 0 := by
            rcases Nat.eq_zero_or_pos sz with hz | hz
            · exact .inr hz
            · refine .inl ?_
              rintro rfl
              have := Nat.mul_pos h0 hz
              simp at h2
              omega
          -- the size of an element is that of the slice
          have hsz : sz' = sz := by
            have hall := List.all_eq_true.1 hok (bif ag then .agg ((cs.drop off).take sz) else nth (cs.drop off) 0) (by
              cases len with
              | zero => omega
              | succ n => simp [chunksA])
            simp only [okEl, Bool.and_eq_true, beq_iff_eq] at hall
            have hsa := hall.1
            have hle : sz ≤ (cs.drop off).length := by
              have : 1 * sz ≤ len * sz := Nat.mul_le_mul_right _ h0
              simp
              omega
            cases ag with
            | true =>
              simp only [cond_true, sizeA, Option.some.injEq, List.length_take] at hsa
              omega
            | false =>
              rcases hag with hag | hag
              · cases hag
              · subst hag
                simp only [cond_false] at hsa
                have hc0 : (cs.drop off)[0]? = some (nth (cs.drop off) 0) := by
                  unfold nth
                  rw [List.getElem?_eq_getElem (by omega), List.getD_eq_getElem?_getD, List.getElem?_eq_getElem (by omega)]
                  rfl
                have hoc := List.all_eq_true.1 h3 (nth (cs.drop off) 0) (List.mem_of_getElem? (i := 0) (by rw [List.getElem?_take, if_pos (by omega)]; exact hc0))
                generalize nth (cs.drop off) 0 = q at hsa hoc
                cases q <;> simp [okCell, sizeA] at hsa hoc <;> omega
          subst hsz
          rcases hne with hne | hz
          · obtain ⟨z, j1, j2, j3, j4, j5⟩ := H.heap.cells hcs hne hβ hb0
            rw [hβ] at j1
            cases j1
            have hzl : cs.length ≤ z.size := by have := j4.length; simp at this; omega
            have j6 : VRs S β (cs.drop off) ((z.toList.take cs.length).drop off) := j4.drop off
            have hF := flat_chunks hag len (cs.drop off) _ j6 (by simp; omega) h3
            refine ⟨rfl, _, hF, fun w' hw' => ?_⟩
            refine run_firstCells_some w' sz' len ⟨b', off, none⟩ len cap _ (by simp; omega) fun j q hq => ?_
            rw [addr_add, hw', j2.cell]
            rw [List.getElem?_take] at hq
            split at hq
            · rw [List.getElem?_drop, List.getElem?_take] at hq
              split at hq
              · simpa using hq
              · simp at hq
            · simp at hq
          · subst hz
            rcases hag with rfl | hag
            · have hall : ∀ n cs, FlatEls S β (chunksA true 0 n cs) [] 0 := by
                intro n
                induction n with
                | zero => intro cs; exact .nil 0
                | succ n ih =>
                  intro cs
                  have : FlatEls S β [AV.agg (cs.take 0)] [] 0 := ⟨by simp, fun i e he => by
                    cases i with
                    | zero =>
                      simp only [List.getElem?_cons_zero, Option.some.injEq] at he
                      subst he
                      exact ⟨.agg #[], by simp only [VR, List.take_zero]; exact ⟨[], rfl, by simp [VRs]⟩, rfl, fun j x hx => by simp [Value.cells] at hx⟩
                    | succ i => simp at he, fun x hx => by simp at hx⟩
                  exact this.append (ih _)
              exact ⟨rfl, [], hall _ _, fun w' _ => run_firstCells_some w' 0 len _ len cap [] (by simp) fun j x hx => by simp at hx⟩
            · omega
  · cases hsrc
    exact srcOK_vr (P := P) H.wf hv sz' [] rfl hok (fun s h => by cases h)
  · cases hsrc
    exact srcOK_vr (P := P) H.wf hv sz' _ rfl hok (fun s h => by cases h)
  · cases hsrc
theorem append_op (hT : TOK P cx.T) (H : FR c N U e h a w S β γ lam ω) (hd : ∀ t, o.dst = some t → t < N) (hU : ∀ g, gid ≤ g → g < gid + 1000 → ¬ U g) {t u : TypeId} {x y : Operand} {cc : Call} (ho : o.op = .call cc) (hb : cc.callee = .builtin .append)
    (hts : cc.argTypes.toList = [t, u]) (hxs : cc.args.toList = [x, y]) (hu : isAppT cx.T u = true) {as : List AV} {vx : Value} {g0 : Option Nat} {r Y : AV} (hav : a.eval x = vx) (hx : VR S β (.sl as) vx)
    (hfree : (g0 = none ∧ vx = .slice none 0 0) ∨ ∃ g z, g0 = some g ∧ FreeR S w ω g z vx ∧ szOk z (elemSize cx.T t) = true) (happ : appA cx.T t (.sl as) Y = some r) (hsrc : SrcOK P S β w (a.eval y) Y) :
    After P c N (UG U gid) (.ok (e.upd o.dst { Upd.own r gid (elemSize cx.T t) with drop := g0 }) h) o a w := by
  obtain ⟨ti, el, ei, bs, ht, hk, hei, hels, hoa, hob, hby, hb0, rfl, hes, hstr⟩ := appA_inv happ
  rw [hes] at hfree ⊢
  have hroom : RoomOf w ei.size vx := by
    rcases hfree with ⟨_, rfl⟩ | ⟨g, z, _, hf, hz⟩
    · exact ⟨none, 0, 0, rfl, Nat.le_refl _, fun _ => rfl, .inl rfl⟩
    · exact (free_room hf hz).1
  obtain ⟨hlen, cs, hflat, hfirst⟩ := hsrc ei.size bs hels hob (strOk_inv hstr)
  obtain ⟨v, w', hrun, hA⟩ := append_run (ty := o.type) hT H.wf ht hk hei hu hx hlen hflat hfirst hoa hby hb0 hroom
  have hfr2 : ∃ z, ((g0 = none ∧ vx = .slice none 0 0) ∨ ∃ g, g0 = some g ∧ FreeR S w ω g z vx) ∧ (z = none ∨ z = some ei.size) := by
    rcases hfree with h1 | ⟨g, z, h1, hf, hz⟩
    · exact ⟨none, .inl h1, .inl rfl⟩
    · exact ⟨z, .inr ⟨g, h1, hf⟩, (free_room hf hz).2⟩
  obtain ⟨z, hf2, hz2⟩ := hfr2
  obtain ⟨S', ω', F⟩ := H.app hd hU hx hoa hf2 hz2 hA
  exact After.val (append_exec ho hb hts hxs (by rw [hav]; exact hrun)) ⟨_, _, _, _, _, F⟩
end
end Go.Av

/- One operation: appends in the heap; all operations together. Conditions: the table of types is the program's; the calls are right. -/
namespace Go.Av
variable [Dr]
section
variable {P : Program} {cx : Cx} {c : Entry} {N : Nat} {U : Nat → Prop} {e : Env} {h : Hp} {a : Act} {w : World} {S : Stab} {β : List Blk} {γ : Nat → Value} {lam : Nat → Option Nat} {ω : Nat → Owner} {o : Oper} {gid : Nat}
omit [Dr] in
theorem flat_cells {sz : Nat} {x : Array Value} : (es : List AV) → (off : Nat) → (∀ (i : Nat) (e : AV), es[i]? = some e → ∃ v, VR S β e v ∧ v.cells.size = sz ∧ ∀ (j : Nat) (y : Value), v.cells[j]? = some y → x[off + i * sz + j]? = some y) →
    okSz sz es = true → (es.flatMap acells).length = es.length * sz ∧ VRs S β (es.flatMap acells) ((x.toList.drop off).take (es.length * sz))
  | [], off, _, _ => by simp [VRs]
  | e :: es, off, hh, hok => by
    simp only [okSz, List.all_cons, Bool.and_eq_true] at hok
    obtain ⟨v, v1, v2, v3⟩ := hh 0 e (by simp)
    obtain ⟨k1, k2, k3⟩ := okEl_ok hok.1 v1
    obtain ⟨h1, h2⟩ := flat_cells es (off + sz) (fun i e' he => by
      obtain ⟨u, u1, u2, u3⟩ := hh (i + 1) e' (by simpa using he)
      exact ⟨u, u1, u2, fun j y hy => by
        have := u3 j y hy
        rwa [show off + (i + 1) * sz + j = off + sz + i * sz + j by rw [Nat.add_mul]; omega] at this⟩) hok.2
    have hacl : (acells e).length = sz := by rw [← k2.length]; simpa using k1
    refine ⟨by simp [h1, hacl, Nat.add_mul]; omega, ?_⟩
    have hfirst : (x.toList.drop off).take sz = v.cells.toList := by
      apply List.ext_getElem?
      intro j
      rw [List.getElem?_take]
      split
      · rename_i hj
        rw [List.getElem?_drop, Array.getElem?_toList, Array.getElem?_toList]
        have : j < v.cells.size := by omega
        have hv := v3 j v.cells[j] (Array.getElem?_eq_getElem this)
        simp only [Nat.zero_mul, Nat.add_zero] at hv
        rw [hv, Array.getElem?_eq_getElem this]
      · rename_i hj
        rw [List.getElem?_eq_none]
        simp; omega
    have hsplit : (x.toList.drop off).take ((e :: es).length * sz) = v.cells.toList ++ (x.toList.drop (off + sz)).take (es.length * sz) := by
      rw [← hfirst, List.length_cons, Nat.add_mul, Nat.one_mul, Nat.add_comm (es.length * sz) sz, List.take_add, List.drop_drop]
    rw [hsplit, List.flatMap_cons]
    exact k2.append h2
inductive AppRaw (w : World) (el sz n0 n : Nat) (olds news : List Value) (vx : Value) : Value → World → Prop where
  | same (h : n = 0) : AppRaw w el sz n0 n olds news vx vx w
  | place (b off cap : Nat) (x : Array Value) (hv : vx = .slice (some ⟨b, off, none⟩) n0 cap) (hr : Row w b x) (hlt : n0 + n ≤ cap) (hc : off + cap * sz ≤ x.size) (hn : n ≠ 0) :
      AppRaw w el sz n0 n olds news vx (.slice (some ⟨b, off, none⟩) (n0 + n) cap)
        (w.setRow b (x.toList.take (off + n0 * sz) ++ news ++ x.toList.drop (off + n0 * sz + news.length)).toArray)
  | fresh (x : Array Value) (e cap : Nat) (hlt : n0 + n ≤ cap) (hc : x.size = cap * sz) (hr : ∀ (i : Nat) (y : Value), (olds ++ news)[i]? = some y → x[i]? = some y) (hn : n ≠ 0) (he : e = el) :
      AppRaw w el sz n0 n olds news vx (.slice (some ⟨w.heap.size, 0, none⟩) (n0 + n) cap) (w.drew.alloc (.cells x e))
omit [Dr] in
theorem append_raw {T : TT} (hT : TOK P T) {t u e ty : Nat} {ti ei : TI} {n0 n : Nat} {olds news : List Value} {vx vy : Value} (ht : T t = some ti) (hk : ti.kind = .slice e) (hei : T e = some ei)
    (hu : isAppT T u = true) (hvx : ∃ a cap, vx = .slice a n0 cap) (hlen : (Builtin.lenOf vy).run P w = .ok n w) (hfirst : ∀ w' : World, (∀ a : Addr, w'.cell? a = w.cell? a) → (Builtin.firstCells ei.size n vy).run P w' = .ok news.toArray w')
    (hold : ∀ w' : World, (∀ a : Addr, w'.cell? a = w.cell? a) → (Builtin.firstCells ei.size n0 vx).run P w' = .ok olds.toArray w') (hol : olds.length = n0 * ei.size) (hnl : news.length = n * ei.size) (hone : ∀ x ∈ news, x.oneCell' = true)
    (hby : (n0 + n) * ei.bytes ≤ 140737488355328) (hb0 : 0 < ei.bytes) (hroom : RoomOf w ei.size vx) :
    ∃ v w', (Builtin.append_ #[t, u] ty #[vx, vy]).run P w = .ok v w' ∧ AppRaw w e ei.size n0 n olds news vx v w' := by
  obtain ⟨_, d, _, _, hd, _, _, _, _, hkd, _⟩ := (hT.get ht).ex
  have hd' : d = .slice e := by cases d <;> simp_all [kindOf]
  subst hd'
  obtain ⟨ii, _, zz, hii, _, hzz, hzs, hsz, hbb, _⟩ := (hT.get hei).ex
  have hz : ∃ du, P.underlying u = some du ∧ ((∃ e', du = .slice e') ∨ du = .string) := by
    unfold isAppT at hu
    split at hu
    · rename_i tu htu
      obtain ⟨_, du, _, _, hdu, _, _, _, _, hku, _⟩ := (hT.get htu).ex
      refine ⟨du, hdu, ?_⟩
      split at hu
      · rename_i e' hk'
        exact .inl ⟨e', by cases du <;> simp_all [kindOf]⟩
      · exact .inr (by cases du <;> simp_all [kindOf])
      · simp at hu
    · simp at hu
  obtain ⟨du, hdu, hduk⟩ := hz
  obtain ⟨a, len, cap, rfl, hlc, hnone, hspare⟩ := hroom
  obtain ⟨a', cap', he⟩ := hvx
  simp only [Value.slice.injEq] at he
  obtain ⟨rfl, rfl, rfl⟩ := he
  by_cases hfit : len + n ≤ cap
  · by_cases hn0 : n = 0
    · subst hn0
      refine ⟨.slice a len cap, w, ?_, .same rfl⟩
      have hns : news = [] := List.eq_nil_of_length_eq_zero (by simpa using hnl)
      subst hns
      have hf : (Builtin.firstCells ei.size 0 vy).run P w = .ok #[] w := by simpa using hfirst w (fun _ => rfl)
      rcases hduk with ⟨e', rfl⟩ | rfl <;> cases a <;>
        simp [Builtin.append_, run_underlying hd, run_underlying hdu, sizeOf, typeInfo, hii, hsz, hlen, hlc, hf, storeCells]
    · rcases hspare with hsp | ⟨b, off, x, rfl, ⟨ce, hrow⟩, hcap⟩
      · omega
      · refine ⟨_, _, ?_, .place b off cap x rfl ⟨ce, hrow⟩ hfit hcap hn0⟩
        have hf := hfirst w (fun _ => rfl)
        have hle : (len + n) * ei.size ≤ cap * ei.size := Nat.mul_le_mul_right _ hfit
        rw [Nat.add_mul] at hle
        have hst := run_storeCells_at P b (off + len * ei.size) ce news 0 x w hrow (by omega) hone
        simp only [Nat.add_zero] at hst
        rcases hduk with ⟨e', rfl⟩ | rfl <;>
          simp [Builtin.append_, run_underlying hd, run_underlying hdu, sizeOf, typeInfo, hii, hsz, hlen, hfit, hf, addr_add, hst]
  · have hne : n ≠ 0 := by rintro rfl; omega
    have hgt : cap < len + n := by omega
    have h63 : ¬ (9223372036854775807 < ((len : Int) + (n : Int))) := by
      have := Nat.le_trans (Nat.le_mul_of_pos_right (len + n) hb0) hby
      omega
    have hfit48 := growslice_fits hgt hby
    have h48 : ¬ (281474976710656 < Builtin.nextslicecap (len + n) cap * ei.bytes) := by omega
    have hb0' : ei.bytes ≠ 0 := by omega
    have hof := hold w.drew (fun a => World.cell?_drew ..)
    have hf := hfirst w.drew (fun a => World.cell?_drew ..)
    have hcapn : len + n ≤ grownCap w (len + n) cap e := Nat.le_add_right _ _
    have hzcs : (Builtin.zeroCells zz.cells (grownCap w (len + n) cap e - (len + n))).size = (grownCap w (len + n) cap e - (len + n)) * ei.size := by
      rw [size_zeroCells, hzs, hsz]
    refine ⟨_, _, ?_, .fresh ((olds ++ news).toArray ++ Builtin.zeroCells zz.cells (grownCap w (len + n) cap e - (len + n))) e (grownCap w (len + n) cap e) hcapn ?_ ?_ hne rfl⟩
    · rcases hduk with ⟨e', rfl⟩ | rfl <;>
        (simp [Builtin.append_, run_underlying hd, run_underlying hdu, sizeOf, typeInfo, zeroValue, hii, hsz, hzz, hlen, hfit, hbb, h48, hb0', Question.forced, hf, hof, newRow, grownCap]
         congr 2
         apply Array.ext'
         simp)
    · rw [Array.size_append, hzcs]
      simp only [List.size_toArray, List.length_append, hol, hnl]
      rw [← Nat.add_mul, ← Nat.add_mul]
      congr 1
      omega
    · intro i y hy
      rw [Array.getElem?_append]
      split
      · simpa using hy
      · rename_i hlt
        rw [List.getElem?_eq_none (by simpa using hlt)] at hy
        simp at hy
end
end Go.Av

/- One operation: appends in the heap. Conditions: the table of types is the program's. -/
namespace Go.Av
variable [Dr]
section
variable {P : Program} {cx : Cx} {c : Entry} {N : Nat} {U : Nat → Prop} {e : Env} {h : Hp} {a : Act} {w : World} {S : Stab} {β : List Blk} {γ : Nat → Value} {lam : Nat → Option Nat} {ω : Nat → Owner} {o : Oper} {gid : Nat}
omit [Dr] in
theorem flat_of_FlatEls {es : List AV} {cs : List Value} {sz : Nat} (hf : FlatEls S β es cs sz) (hok : okSz sz es = true) : (es.flatMap acells).length = es.length * sz ∧ VRs S β (es.flatMap acells) cs := by
  obtain ⟨h1, h2, _⟩ := hf
  obtain ⟨g1, g2⟩ := flat_cells (x := cs.toArray) es 0 (fun i e he => by
    obtain ⟨v, v1, v2, v3⟩ := h2 i e he
    exact ⟨v, v1, v2, fun j y hy => by rw [Nat.zero_add]; exact v3 j y hy⟩) hok
  refine ⟨g1, ?_⟩
  have : (cs.toArray.toList.drop 0).take (es.length * sz) = cs := by simp [← h1]
  rw [this] at g2
  exact g2
theorem buildH_op (hT : TOK P cx.T) (H : FR c N U e h a w S β γ lam ω) (hd : ∀ t, o.dst = some t → t < N) {t n : Nat} {ps : Array (Nat × Operand)} (ho : o.op = .buildSlice t n ps)
    (ht : ∀ p ∈ ps.toList, ∀ t, p.2 = .tmp t → t < 1000) (hr : runAct e o.dst (.dyn (buildH cx.T t n (ps.toList.map fun p => (p.1, opnd e p.2))) .ofV) h ≠ .fail) :
    After P c N (UG U gid) (runAct e o.dst (.dyn (buildH cx.T t n (ps.toList.map fun p => (p.1, opnd e p.2))) .ofV) h) o a w := by
  simp only [runAct, bnd, M.pure] at hr ⊢
  unfold buildH at hr ⊢
  cases hb : buildSliceA cx.T t n (ps.toList.map fun p => (p.1, opnd e p.2)) with
  | none => rw [hb] at hr; exact absurd rfl hr
  | some r =>
    obtain ⟨es, x, el, sz, rfl, hlen, hrow, hrun⟩ := buildSlice_ok (w := w) (qs := ps.map fun p => (p.1, a.eval p.2)) hT hb (by simpa using partsR_ok H ps.toList ht)
    rw [hb] at hr
    simp only at hr ⊢
    cases htt : cx.T t with
    | none => rw [htt] at hr; exact absurd rfl hr
    | some ti =>
      rw [htt] at hr
      simp only at hr ⊢
      cases hk : ti.kind <;> rw [hk] at hr <;> simp only at hr ⊢ <;> (try exact absurd rfl hr)
      rename_i e'
      cases hei : cx.T e' with
      | none => rw [hei] at hr; exact absurd rfl hr
      | some ei =>
        rw [hei] at hr
        simp only at hr ⊢
        cases hc : (okSz ei.size es && decide (0 < ei.size) && decide (0 < n)) with
        | false => rw [hc] at hr; exact absurd rfl hr
        | true =>
          simp only [cond_true]
          simp only [Bool.and_eq_true, decide_eq_true_eq] at hc
          obtain ⟨⟨h1, h2⟩, h3⟩ := hc
          have hsz : sz = ei.size := by
            obtain ⟨v, v1, v2, _⟩ := hrow 0 es[0] (List.getElem?_eq_getElem (by omega))
            have := (okEl_ok (List.all_eq_true.1 h1 es[0] (List.getElem_mem (by omega))) v1).1
            omega
          subst hsz
          obtain ⟨g1, g2⟩ := flat_cells (x := x) es 0 (fun i e he => by
            obtain ⟨v, v1, v2, v3⟩ := hrow i e he
            exact ⟨v, v1, v2, fun j y hy => by rw [Nat.zero_add]; exact v3 j y hy⟩) h1
          rw [List.drop_zero, ← g1] at g2
          have hle : n * ei.size ≤ x.size := by
            have := g2.length
            simp only [List.length_take, g1, hlen, Array.length_toList] at this
            omega
          have hex : (execOp a.eval o).run P w = .ok (.value (.slice (some ⟨w.heap.size, 0, none⟩) n n)) (w.alloc (.cells x el)) := by
            simp only [execOp, ho, Sem.run_bind, hrun, Result.andThen_ok, Sem.run_pure]
          obtain ⟨ω', F, hnew, hext⟩ := H.newH x el g2 (fun t ht => absurd ht (nob_okSz h1 t))
          refine After.val hex (Sat.up ⟨_, _, γ, lam, ω', F.setV hd ?_⟩)
          simp only [VR]
          have hx0 : x.size ≠ 0 := by
            have := Nat.mul_pos h3 h2
            omega
          exact .inl ⟨(w.heap.size, x.size), n, hnew, hx0, rfl, Nat.le_refl _, by simpa using hle⟩
theorem appH_op (hT : TOK P cx.T) (H : FR c N U e h a w S β γ lam ω) (hd : ∀ t, o.dst = some t → t < N) {t u : TypeId} {x y : Operand} {cc : Call} (ho : o.op = .call cc) (hb : cc.callee = .builtin .append)
    (hts : cc.argTypes.toList = [t, u]) (hxs : cc.args.toList = [x, y]) (hx : ∀ t, x = .tmp t → t < 1000) (hy : ∀ t, y = .tmp t → t < 1000) (hu : isAppT cx.T u = true)
    (hr : runAct e o.dst (.dyn (appH cx.T t (noSpare e x) (opnd e x) (opnd e y)) .ofV) h ≠ .fail) : After P c N (UG U gid) (runAct e o.dst (.dyn (appH cx.T t (noSpare e x) (opnd e x) (opnd e y)) .ofV) h) o a w := by
  have hvx := opnd_ok H x hx
  have hvy := opnd_ok H y hy
  simp only [runAct, bnd, M.pure] at hr ⊢
  have hz : noSpare e x = true → opnd e x = .sl [] → ∃ a0, a.eval x = .slice a0 0 0 := by
    intro hz hX
    unfold noSpare at hz
    split at hz
    · rename_i s
      have hs1 := hx s rfl
      have hs2 := H.slots s hs1
      split at hz
      · rename_i g hg
        split at hz
        · rename_i hal
          obtain ⟨a0, len, cap, e1, e2, e3, e4⟩ := H.free g none hal
          have e5 := H.grps s g none hs1 hg hal
          have e6 : a.eval (.tmp s) = γ g := e5
          rw [hX] at hvx
          simp only [VR] at hvx
          obtain ⟨a1, cap1, f1, f2, f3, _⟩ := hvx
          rw [e6, e1] at f1
          cases f1
          rcases e4 with e4 | ⟨sz, _, _, _, e4, _⟩
          · simp only [List.length_nil] at e4
            subst e4
            exact ⟨a0, by rw [e6, e1]; rfl⟩
          · cases e4
        · cases hz
      · cases hz
    · cases hz
  generalize noSpare e x = zz at hr hz ⊢
  generalize hX : opnd e x = X at hr hvx hz ⊢
  unfold appH at hr ⊢
  cases ht : cx.T t with
  | none => rw [ht] at hr; exact absurd rfl hr
  | some ti =>
    rw [ht] at hr
    simp only at hr ⊢
    cases hk : ti.kind <;> rw [hk] at hr <;> simp only at hr ⊢ <;> (try exact absurd rfl hr)
    rename_i el
    cases hei : cx.T el with
    | none => rw [hei] at hr; exact absurd rfl hr
    | some ei =>
      rw [hei] at hr
      simp only at hr ⊢
      cases hels : elsOf (opnd e y) with
      | none => rw [hels] at hr; exact absurd rfl hr
      | some bs =>
        rw [hels] at hr
        simp only at hr ⊢
        cases hc : (okSz ei.size bs && decide (0 < ei.bytes) && decide (0 < ei.size) && strOk (opnd e y) ei.size) with
        | false => rw [hc] at hr; exact absurd rfl hr
        | true =>
          rw [hc] at hr
          simp only [cond_true] at hr ⊢
          simp only [Bool.and_eq_true, decide_eq_true_eq] at hc
          obtain ⟨⟨⟨h1, h2⟩, h3⟩, h4⟩ := hc
          obtain ⟨hlen, news, hflat, hfirst⟩ := src_ok (P := P) H.wf hels hvy h1 (strOk_inv h4)
          obtain ⟨hfl, hfv⟩ := flat_of_FlatEls hflat h1
          have hfirst' : ∀ w' : World, (∀ a : Addr, w'.cell? a = w.cell? a) → (Builtin.firstCells ei.size bs.length (a.eval y)).run P w' = .ok news.toArray w' := fun w' hw' =>
            hfirst w' (fun b o x hx => by rw [hw']; exact H.wf b o x hx)
          have hna : ei.agg = false → ei.size = 1 := by
            intro hag
            obtain ⟨ii, _, zz, _, _, _, hzs, hsz, _, _, _, _, _, _, _, hnn⟩ := (hT.get hei).ex
            have hz1 : zz.cells.size = 1 := by cases zz <;> first | rfl | exact absurd rfl (hnn hag _)
            omega
          by_cases hXs : X = .sl [] ∧ zz = true
          · obtain ⟨rfl, hzz⟩ := hXs
            subst hzz
            simp only [cond_true] at hr ⊢
            obtain ⟨a0, hvx0⟩ := hz rfl rfl
            have hvr := hvx
            replace hvx := hvx0
            cases hbe : bs.isEmpty with
            | true =>
              have hbs : bs = [] := by simpa using hbe
              subst hbs
              simp only [cond_true]
              obtain ⟨v, w', hrun, hA⟩ := append_raw (ty := o.type) hT ht hk hei hu (n0 := 0) (olds := []) ⟨a0, 0, hvx⟩ hlen hfirst' (fun w' _ => by rw [hvx]; cases a0 with | none => simp [Builtin.firstCells] | some q => exact run_firstCells_some w' _ 0 q 0 0 [] (by simp) (fun j x hx => by simp at hx)) (by simp) hflat.1 hflat.2.2 (by simp) h2
                (by rw [hvx]; exact ⟨a0, 0, 0, rfl, Nat.le_refl _, fun _ => rfl, .inl rfl⟩)
              cases hA with
              | same _ =>
                exact After.val (append_exec ho hb hts hxs hrun) (Sat.up ⟨S, β, γ, lam, ω, H.setV hd hvr⟩)
              | place _ _ _ _ _ _ _ _ hn => exact absurd rfl hn
              | fresh _ _ _ _ _ _ hn => exact absurd rfl hn
            | false =>
              rw [hbe] at hr
              simp only [cond_false] at hr ⊢
              cases hby : decide (bs.length * ei.bytes ≤ 140737488355328) with
              | false => rw [hby] at hr; exact absurd rfl hr
              | true =>
                simp only [cond_true]
                have hne : bs.length ≠ 0 := by
                  intro h0
                  have := List.eq_nil_of_length_eq_zero h0
                  subst this
                  simp at hbe
                obtain ⟨v, w', hrun, hA⟩ := append_raw (ty := o.type) hT ht hk hei hu (n0 := 0) (olds := []) ⟨a0, 0, hvx⟩ hlen hfirst' (fun w' _ => by rw [hvx]; cases a0 with | none => simp [Builtin.firstCells] | some q => exact run_firstCells_some w' _ 0 q 0 0 [] (by simp) (fun j x hx => by simp at hx)) (by simp) hflat.1 hflat.2.2 (by simpa using hby) h2
                  (by rw [hvx]; exact ⟨a0, 0, 0, rfl, Nat.le_refl _, fun _ => rfl, .inl rfl⟩)
                cases hA with
                | same h0 => exact absurd h0 hne
                | place b off cap z hv _ hlt _ _ => rw [hvx] at hv; cases hv; omega
                | fresh z te cap hlt hzc hzr hn =>
                  obtain ⟨ω', F, hnew, hext⟩ := (H.drew).newH z te (cs := bs.flatMap acells) (by
                    refine .of_get ?_ fun i q v hq hv => ?_
                    · have : bs.length * ei.size ≤ cap * ei.size := Nat.mul_le_mul_right _ (by omega)
                      rw [List.length_take]
                      apply Nat.min_eq_left
                      have hz' : z.toList.length = cap * ei.size := by simpa using hzc
                      have hfl' : (bs.flatMap acells).length = bs.length * ei.size := hfl
                      rw [hz', hfl']
                      exact this
                    · obtain ⟨v', h1', h2'⟩ := hfv.get hq
                      have := hzr i v' (by simpa using h1')
                      rw [List.getElem?_take] at hv
                      split at hv
                      · rw [Array.getElem?_toList, this] at hv; cases hv; exact h2'
                      · simp at hv) (fun t ht => absurd ht (nob_okSz h1 t))
                  have hnew' : (β ++ [(w.drew.heap.size, z.size)])[h.length]? = some (w.heap.size, z.size) := hnew
                  refine After.val (append_exec ho hb hts hxs hrun) (Sat.up ⟨_, _, γ, lam, ω', F.setV hd ?_⟩)
                  simp only [VR]
                  have hz0 : z.size ≠ 0 := by
                    have : 0 < cap * ei.size := Nat.mul_pos (by omega) h3
                    omega
                  exact .inl ⟨(w.heap.size, z.size), cap, hnew', hz0, by simp, by omega, by simp [hzc]⟩
          by_cases hXn : X = .hn
          · subst hXn
            simp only at hr ⊢
            simp only [VR] at hvx
            cases hbe : bs.isEmpty with
            | true =>
              have hbs : bs = [] := by simpa using hbe
              subst hbs
              simp only [cond_true]
              obtain ⟨v, w', hrun, hA⟩ := append_raw (ty := o.type) hT ht hk hei hu (n0 := 0) (olds := []) ⟨none, 0, hvx⟩ hlen hfirst' (fun w' _ => by rw [hvx]; simp [Builtin.firstCells]) (by simp) hflat.1 hflat.2.2 (by simp) h2
                (by rw [hvx]; exact ⟨none, 0, 0, rfl, Nat.le_refl _, fun _ => rfl, .inl rfl⟩)
              cases hA with
              | same _ =>
                exact After.val (append_exec ho hb hts hxs hrun) (Sat.up ⟨S, β, γ, lam, ω, H.setV hd (by simp only [VR]; exact hvx)⟩)
              | place _ _ _ _ _ _ _ _ hn => exact absurd rfl hn
              | fresh _ _ _ _ _ _ hn => exact absurd rfl hn
            | false =>
              rw [hbe] at hr
              simp only [cond_false] at hr ⊢
              cases hby : decide (bs.length * ei.bytes ≤ 140737488355328) with
              | false => rw [hby] at hr; exact absurd rfl hr
              | true =>
                simp only [cond_true]
                have hne : bs.length ≠ 0 := by
                  intro h0
                  have := List.eq_nil_of_length_eq_zero h0
                  subst this
                  simp at hbe
                obtain ⟨v, w', hrun, hA⟩ := append_raw (ty := o.type) hT ht hk hei hu (n0 := 0) (olds := []) ⟨none, 0, hvx⟩ hlen hfirst' (fun w' _ => by rw [hvx]; simp [Builtin.firstCells]) (by simp) hflat.1 hflat.2.2 (by simpa using hby) h2
                  (by rw [hvx]; exact ⟨none, 0, 0, rfl, Nat.le_refl _, fun _ => rfl, .inl rfl⟩)
                cases hA with
                | same h0 => exact absurd h0 hne
                | place b off cap z hv _ _ _ _ => rw [hvx] at hv; cases hv
                | fresh z te cap hlt hzc hzr hn =>
                  obtain ⟨ω', F, hnew, hext⟩ := (H.drew).newH z te (cs := bs.flatMap acells) (by
                    refine .of_get ?_ fun i q v hq hv => ?_
                    · have : bs.length * ei.size ≤ cap * ei.size := Nat.mul_le_mul_right _ (by omega)
                      rw [List.length_take]
                      apply Nat.min_eq_left
                      have hz' : z.toList.length = cap * ei.size := by simpa using hzc
                      have hfl' : (bs.flatMap acells).length = bs.length * ei.size := hfl
                      rw [hz', hfl']
                      exact this
                    · obtain ⟨v', h1', h2'⟩ := hfv.get hq
                      have := hzr i v' (by simpa using h1')
                      rw [List.getElem?_take] at hv
                      split at hv
                      · rw [Array.getElem?_toList, this] at hv; cases hv; exact h2'
                      · simp at hv) (fun t ht => absurd ht (nob_okSz h1 t))
                  have hnew' : (β ++ [(w.drew.heap.size, z.size)])[h.length]? = some (w.heap.size, z.size) := hnew
                  refine After.val (append_exec ho hb hts hxs hrun) (Sat.up ⟨_, _, γ, lam, ω', F.setV hd ?_⟩)
                  simp only [VR]
                  have hz0 : z.size ≠ 0 := by
                    have : 0 < cap * ei.size := Nat.mul_pos (by omega) h3
                    omega
                  exact .inl ⟨(w.heap.size, z.size), cap, hnew', hz0, by simp, by omega, by simp [hzc]⟩
          · -- a row of the heap
            cases X with
            | hs l off len sz ag =>
              cases off with
              | succ k => exact absurd rfl hr
              | zero =>
                simp only at hr ⊢
                cases hcs : h[l]? with
                | none => rw [hcs] at hr; exact absurd rfl hr
                | some cs =>
                  rw [hcs] at hr
                  simp only at hr ⊢
                  cases hc2 : (sz == ei.size && ag == ei.agg && cs.all okCell && decide (len * sz ≤ cs.length) && decide (0 < cs.length) && decide ((len + bs.length) * ei.bytes ≤ 140737488355328)) with
                  | false => rw [hc2] at hr; exact absurd rfl hr
                  | true =>
                    simp only [cond_true]
                    simp only [Bool.and_eq_true, decide_eq_true_eq, beq_iff_eq] at hc2
                    obtain ⟨⟨⟨⟨⟨rfl, rfl⟩, k3⟩, k4⟩, k5⟩, k6⟩ := hc2
                    have hvx0 := hvx
                    have hne : cs ≠ [] := by
                      rintro rfl
                      simp at k5
                    have hl : l < h.length := by
                      rcases Nat.lt_or_ge l h.length with h' | h'
                      · exact h'
                      · rw [List.getElem?_eq_none h'] at hcs; simp at hcs
                    simp only [VR] at hvx
                    rcases hvx with ⟨⟨b, nb⟩, cap, hβ, hb0, hvx, hlc, hcn⟩ | ⟨h00, q, hvx⟩
                    · obtain ⟨z, j1, j2, j3, j4, j5⟩ := H.heap.cells hcs hne hβ hb0
                      rw [hβ] at j1
                      simp only [Option.some.injEq, Prod.mk.injEq, true_and] at j1
                      subst j1
                      have hzs : cs.length ≤ z.size := by have := j4.length; simp at this; omega
                      have hol : (z.toList.take (len * ei.size)).length = len * ei.size := by simp; omega
                      have j6 : VRs S β (cs.take (len * ei.size)) (z.toList.take (len * ei.size)) := by
                        have := j4.take (len * ei.size)
                        rw [List.take_take, Nat.min_eq_left k4] at this
                        exact this
                      have hcl : (cs.take (len * ei.size)).length = len * ei.size := by simp; omega
                      have hold : ∀ w' : World, (∀ a : Addr, w'.cell? a = w.cell? a) → (Builtin.firstCells ei.size len (a.eval x)).run P w' = .ok (z.toList.take (len * ei.size)).toArray w' := fun w' hw' => by
                        rw [hvx]
                        refine run_firstCells_some w' ei.size len ⟨b, 0, none⟩ len cap _ hol fun j q hq => ?_
                        rw [addr_add, Nat.zero_add, hw', j2.cell]
                        rw [List.getElem?_take] at hq
                        split at hq
                        · simpa using hq
                        · simp at hq
                      have hroom : RoomOf w ei.size (a.eval x) := ⟨_, len, cap, hvx, hlc, (fun h => by cases h), .inr ⟨b, 0, z, rfl, j2, hcn⟩⟩
                      obtain ⟨v, w', hrun, hA⟩ := append_raw (ty := o.type) hT ht hk hei hu (n0 := len) (olds := z.toList.take (len * ei.size)) ⟨_, cap, hvx⟩ hlen hfirst' hold hol hflat.1 hflat.2.2 k6 h2 hroom
                      have hexec := append_exec ho hb hts hxs hrun
                      cases hA with
                      | same h0 =>
                        have hbs : bs = [] := List.eq_nil_of_length_eq_zero h0
                        subst hbs
                        simp only [List.isEmpty_nil, cond_true]
                        exact After.val hexec (Sat.up ⟨S, β, γ, lam, ω, H.setV hd hvx0⟩)
                      | place b2 off2 cap2 z2 hv2 hr2 hlt2 hc2' hn2 =>
                        have hbe : bs.isEmpty = false := by cases bs <;> simp_all
                        rw [hbe]
                        simp only [cond_false]
                        rw [hvx] at hv2
                        simp only [Value.slice.injEq, Option.some.injEq, Addr.mk.injEq] at hv2
                        obtain ⟨⟨rfl, rfl, _⟩, _, rfl⟩ := hv2
                        cases j2.inj hr2
                        have hnl := hflat.1
                        have hle : (len + bs.length) * ei.size ≤ cap * ei.size := Nat.mul_le_mul_right _ hlt2
                        rw [Nat.add_mul] at hle
                        have hysz : (z.toList.take (0 + len * ei.size) ++ news ++ z.toList.drop (0 + len * ei.size + news.length)).toArray.size = z.size := by simp; omega
                        have hyv : VRs S β (cs.take (len * ei.size) ++ bs.flatMap acells) ((z.toList.take (0 + len * ei.size) ++ news ++ z.toList.drop (0 + len * ei.size + news.length)).toArray.toList.take (cs.take (len * ei.size) ++ bs.flatMap acells).length) := by
                          have hl1 : (z.toList.take (0 + len * ei.size) ++ news).length = (cs.take (len * ei.size) ++ bs.flatMap acells).length := by
                            rw [List.length_append, List.length_append, Nat.zero_add, hol, hcl, hfl, hnl]
                          show VRs S β _ (List.take _ (z.toList.take (0 + len * ei.size) ++ news ++ z.toList.drop (0 + len * ei.size + news.length)))
                          rw [List.take_left' hl1, Nat.zero_add]
                          exact j6.append hfv
                        have hne2 : cs.take (len * ei.size) ++ bs.flatMap acells ≠ [] := by
                          intro h0
                          have h1' := (List.append_eq_nil_iff.1 h0).2
                          rw [h1'] at hfl
                          have : 0 < bs.length * ei.size := Nat.mul_pos (Nat.pos_of_ne_zero fun h => by rw [List.eq_nil_of_length_eq_zero h] at hbe; cases hbe) h3
                          rw [List.length_nil] at hfl
                          omega
                        have hnb : ∀ t, ¬ InTag t (cs.take (len * ei.size) ++ bs.flatMap acells) := fun t ht => by
                          rcases ht.append with ht | ht
                          · exact nob_cells k3 t (ht.mono fun a => List.mem_of_mem_take)
                          · exact nob_okSz h1 t ht
                        have F1 := H.turnH hcs hne ⟨_, hβ⟩ j2 hysz hyv (fun t ht => absurd ht (hnb t))
                        have hcs1 : (h.set l (cs.take (len * ei.size) ++ bs.flatMap acells))[l]? = some (cs.take (len * ei.size) ++ bs.flatMap acells) := by simp [hl]
                        obtain ⟨ω', F2, hnew, hext⟩ := F1.moveH hcs1 hne2 ⟨_, hβ⟩ j2.setRow hyv (fun t ht => ht)
                        have hset : (h.set l (cs.take (len * ei.size) ++ bs.flatMap acells)).set l [] = h.set l [] := by simp
                        rw [hset] at F2
                        rw [List.length_set] at hnew
                        refine After.val hexec (Sat.up ⟨_, _, γ, lam, ω', F2.setV hd ?_⟩)
                        simp only [VR]
                        exact .inl ⟨_, cap, hnew, by simp only; rw [hysz]; exact hb0, rfl, hlt2, by simp only; rw [hysz]; exact hcn⟩
                      | fresh z2 te cap2 hlt2 hzc hzr hn2 =>
                        have hbe : bs.isEmpty = false := by cases bs <;> simp_all
                        rw [hbe]
                        simp only [cond_false]
                        have F1 := (H.drew).killH l
                        obtain ⟨ω', F2, hnew, hext⟩ := F1.newH z2 te (cs := cs.take (len * ei.size) ++ bs.flatMap acells) (by
                          refine .of_get ?_ fun i q v hq hv => ?_
                          · have : (len + bs.length) * ei.size ≤ cap2 * ei.size := Nat.mul_le_mul_right _ hlt2
                            rw [Nat.add_mul] at this
                            rw [List.length_take, List.length_append, hcl, hfl]
                            apply Nat.min_eq_left
                            have hz' : z2.toList.length = cap2 * ei.size := by simpa using hzc
                            omega
                          · obtain ⟨v', h1', h2'⟩ := (j6.append hfv).get hq
                            have := hzr i v' h1'
                            rw [List.getElem?_take] at hv
                            split at hv
                            · rw [Array.getElem?_toList, this] at hv; cases hv; exact h2'
                            · simp at hv) (fun t ht => absurd ht (fun ht => by
                          rcases ht.append with ht | ht
                          · exact nob_cells k3 t (ht.mono fun a => List.mem_of_mem_take)
                          · exact nob_okSz h1 t ht))
                        rw [List.length_set] at hnew
                        have hnew' : (β ++ [(w.drew.heap.size, z2.size)])[h.length]? = some (w.heap.size, z2.size) := hnew
                        refine After.val hexec (Sat.up ⟨_, _, γ, lam, ω', F2.setV hd ?_⟩)
                        simp only [VR]
                        have hz0 : z2.size ≠ 0 := by
                          have : 0 < cap2 * ei.size := Nat.mul_pos (by omega) h3
                          omega
                        exact .inl ⟨(w.heap.size, z2.size), cap2, hnew', hz0, rfl, hlt2, by simp [hzc]⟩
                    · subst h00
                      obtain ⟨v, w', hrun, hA⟩ := append_raw (ty := o.type) hT ht hk hei hu (n0 := 0) (olds := []) ⟨some q, 0, hvx⟩ hlen hfirst' (fun w' _ => by rw [hvx]; exact run_firstCells_some w' _ 0 q 0 0 [] (by simp) (fun j x hx => by simp at hx)) (by simp) hflat.1 hflat.2.2 k6 h2
                        (by rw [hvx]; exact ⟨some q, 0, 0, rfl, Nat.le_refl _, fun _ => rfl, .inl rfl⟩)
                      have hexec := append_exec ho hb hts hxs hrun
                      cases hA with
                      | same h0 =>
                        have hbs : bs = [] := List.eq_nil_of_length_eq_zero h0
                        subst hbs
                        simp only [List.isEmpty_nil, cond_true]
                        exact After.val hexec (Sat.up ⟨S, β, γ, lam, ω, H.setV hd hvx0⟩)
                      | place b off cap z hv _ hlt _ hn =>
                        rw [hvx] at hv
                        cases hv
                        have : bs.length ≠ 0 := hn
                        omega
                      | fresh z2 te cap2 hlt2 hzc hzr hn2 =>
                        have hbe : bs.isEmpty = false := by cases bs <;> simp_all
                        rw [hbe]
                        simp only [cond_false, Nat.zero_mul, List.take_zero, List.nil_append]
                        have F1 := (H.drew).killH l
                        obtain ⟨ω', F2, hnew, hext⟩ := F1.newH z2 te (cs := bs.flatMap acells) (by
                          refine .of_get ?_ fun i q v hq hv => ?_
                          · have : bs.length * ei.size ≤ cap2 * ei.size := Nat.mul_le_mul_right _ (by omega)
                            rw [List.length_take, hfl]
                            apply Nat.min_eq_left
                            have hz' : z2.toList.length = cap2 * ei.size := by simpa using hzc
                            omega
                          · obtain ⟨v', h1', h2'⟩ := hfv.get hq
                            have := hzr i v' (by simpa using h1')
                            rw [List.getElem?_take] at hv
                            split at hv
                            · rw [Array.getElem?_toList, this] at hv; cases hv; exact h2'
                            · simp at hv) (fun t ht => absurd ht (nob_okSz h1 t))
                        rw [List.length_set] at hnew
                        have hnew' : (β ++ [(w.drew.heap.size, z2.size)])[h.length]? = some (w.heap.size, z2.size) := hnew
                        refine After.val hexec (Sat.up ⟨_, _, γ, lam, ω', F2.setV hd ?_⟩)
                        simp only [VR]
                        have hz0 : z2.size ≠ 0 := by
                          have : 0 < cap2 * ei.size := Nat.mul_pos (by omega) h3
                          omega
                        exact .inl ⟨(w.heap.size, z2.size), cap2, hnew', hz0, by simp, by omega, by simp [hzc]⟩
            | sl es =>
              cases es with
              | nil =>
                cases zz with
                | true => exact absurd ⟨rfl, rfl⟩ hXs
                | false => exact absurd rfl hr
              | cons _ _ => exact absurd rfl hr
            | _ => first | exact absurd rfl hXn | exact absurd rfl hr
end
end Go.Av

/- Append of bytes to a strings.Builder's buffer is right. Condition: the table of types is the program's. -/
namespace Go.Av
variable [Dr]
section
variable {P : Program} {cx : Cx} {c : Entry} {N : Nat} {U : Nat → Prop} {e : Env} {h : Hp} {a : Act} {w : World} {S : Stab} {β : List Blk} {γ : Nat → Value} {lam : Nat → Option Nat} {ω : Nat → Owner} {o : Oper} {gid : Nat}
omit [Dr] in
theorem bytM_inv {el : Nat} : ∀ {bs cs : List AV}, bytM el bs = some cs → ∃ ns : List Int, bs = ns.map (.int .u8) ∧ cs = ns.map (.byt el)
  | [], cs, h => by simp only [bytM, Option.some.injEq] at h; subst h; exact ⟨[], rfl, rfl⟩
  | x :: r, cs, h => by
    unfold bytM at h
    split at h
    · rename_i heq; cases heq
    · rename_i n r' heq
      obtain ⟨rfl, rfl⟩ := List.cons.inj heq
      cases hr : bytM el r with
      | none => rw [hr] at h; cases h
      | some cs' =>
        rw [hr] at h
        simp only [Option.map_some, Option.some.injEq] at h
        subst h
        obtain ⟨ns, h1, h2⟩ := bytM_inv hr
        exact ⟨n :: ns, by rw [h1]; rfl, by rw [h2]; rfl⟩
    · cases h
omit [Dr] in
theorem bytM_tag {el t : Nat} {ns : List Int} (h : InTag t (ns.map (.byt el))) : t = el := by
  obtain ⟨x, h1, h2⟩ := h
  obtain ⟨n, _, rfl⟩ := List.mem_map.1 h1
  simpa [tagOf] using h2.symm
omit [Dr] in
theorem isByt_tag {el t : Nat} {cs : List AV} (h : cs.all (isByt el) = true) (ht : InTag t cs) : t = el := by
  obtain ⟨x, h1, h2⟩ := ht
  have := List.all_eq_true.1 h x h1
  cases x <;> simp [isByt] at this
  simp [tagOf] at h2
  omega
omit [Dr] in
theorem isByt_in {el : Nat} {cs : List AV} (h : cs.all (isByt el) = true) (hn : 0 < cs.length) : InTag el cs := by
  cases cs with
  | nil => simp at hn
  | cons x cs =>
    have := List.all_eq_true.1 h x (by simp)
    cases x <;> simp [isByt] at this
    subst this
    exact ⟨_, List.mem_cons_self, rfl⟩
omit [Dr] in
theorem bytM_ok (ns : List Int) : okSz 1 (ns.map (.int .u8)) = true := by
  unfold okSz
  rw [List.all_eq_true]
  intro x hx
  obtain ⟨n, _, rfl⟩ := List.mem_map.1 hx
  rfl
omit [Dr] in
theorem bytM_flat : ∀ (ns : List Int), (ns.map (AV.int .u8)).flatMap acells = ns.map (.int .u8)
  | [] => rfl
  | n :: ns => by simp only [List.map_cons, List.flatMap_cons, bytM_flat ns]; rfl
omit [Dr] in
theorem bytM_vr {el : Nat} : ∀ {ns : List Int} {vs : List Value}, VRs S β (ns.map (.int .u8)) vs → VRs S β (ns.map (.byt el)) vs
  | [], vs, h => by simpa [VRs] using h
  | n :: ns, vs, h => by
    simp only [List.map_cons, VRs, VR] at h ⊢
    obtain ⟨y, ys, rfl, hy, h⟩ := h
    exact ⟨y, ys, rfl, hy, bytM_vr h⟩
theorem appB_op (hT : TOK P cx.T) (H : FR c N U e h a w S β γ lam ω) (hd : ∀ t, o.dst = some t → t < N) {t u : TypeId} {x y : Operand} {cc : Call} (ho : o.op = .call cc) (hb : cc.callee = .builtin .append)
    (hts : cc.argTypes.toList = [t, u]) (hxs : cc.args.toList = [x, y]) (hx : ∀ t, x = .tmp t → t < 1000) (hy : ∀ t, y = .tmp t → t < 1000) (hu : isAppT cx.T u = true)
    (hr : runAct e o.dst (.dyn (appB cx.T t (opnd e x) (opnd e y)) .ofV) h ≠ .fail) : After P c N (UG U gid) (runAct e o.dst (.dyn (appB cx.T t (opnd e x) (opnd e y)) .ofV) h) o a w := by
  have hvx := opnd_ok H x hx
  have hvy := opnd_ok H y hy
  simp only [runAct, bnd, M.pure] at hr ⊢
  generalize hX : opnd e x = X at hr hvx ⊢
  unfold appB at hr ⊢
  cases ht : cx.T t with
  | none => rw [ht] at hr; exact absurd rfl hr
  | some ti =>
    rw [ht] at hr
    simp only at hr ⊢
    cases hk : ti.kind <;> rw [hk] at hr <;> simp only at hr ⊢ <;> (try exact absurd rfl hr)
    rename_i el
    cases hei : cx.T el with
    | none => rw [hei] at hr; exact absurd rfl hr
    | some ei =>
      rw [hei] at hr
      simp only at hr ⊢
      cases hc : (Nat.beq ei.size 1 && Nat.beq ei.bytes 1 && !ei.agg) with
      | false => rw [hc] at hr; exact absurd rfl hr
      | true =>
        rw [hc] at hr
        simp only [cond_true] at hr ⊢
        simp only [Bool.and_eq_true, Bool.not_eq_true'] at hc
        obtain ⟨⟨h1, h2⟩, hag⟩ := hc
        have h1 := Nat.eq_of_beq_eq_true h1
        have h2 := Nat.eq_of_beq_eq_true h2
        cases hels : elsOf (opnd e y) with
        | none => rw [hels] at hr; exact absurd rfl hr
        | some bs =>
          rw [hels] at hr
          simp only at hr ⊢
          cases hbm : bytM el bs with
          | none => rw [hbm] at hr; exact absurd rfl hr
          | some cs' =>
            rw [hbm] at hr
            simp only at hr ⊢
            obtain ⟨ns, rfl, rfl⟩ := bytM_inv hbm
            have hok : okSz ei.size (ns.map (AV.int .u8)) = true := by rw [h1]; exact bytM_ok ns
            obtain ⟨hlen, news, hflat, hfirst⟩ := src_ok (P := P) H.wf hels hvy hok (fun _ _ => h1)
            obtain ⟨hfl, hfv⟩ := flat_of_FlatEls hflat hok
            rw [bytM_flat] at hfl hfv
            have hfb : VRs S β (ns.map (.byt el)) news := bytM_vr hfv
            have hnl : news.length = ns.length := by have := hfb.length; simpa using this
            have hfirst' : ∀ w' : World, (∀ a : Addr, w'.cell? a = w.cell? a) → (Builtin.firstCells ei.size (ns.map (AV.int .u8)).length (a.eval y)).run P w' = .ok news.toArray w' := fun w' hw' =>
              hfirst w' (fun b o x hx => by rw [hw']; exact H.wf b o x hx)
            have hb0 : 0 < ei.bytes := by omega
            by_cases hXn : X = .hn
            · subst hXn
              simp only at hr ⊢
              simp only [VR] at hvx
              cases hbe : (ns.map (AV.int .u8)).isEmpty with
              | true =>
                have hbs : ns = [] := by simpa using hbe
                subst hbs
                simp only [cond_true]
                obtain ⟨v, w', hrun, hA⟩ := append_raw (ty := o.type) hT ht hk hei hu (n0 := 0) (olds := []) ⟨none, 0, hvx⟩ hlen hfirst' (fun w' _ => by rw [hvx]; simp [Builtin.firstCells]) (by simp) hflat.1 hflat.2.2 (by simp) hb0
                  (by rw [hvx]; exact ⟨none, 0, 0, rfl, Nat.le_refl _, fun _ => rfl, .inl rfl⟩)
                cases hA with
                | same _ => exact After.val (append_exec ho hb hts hxs hrun) (Sat.up ⟨S, β, γ, lam, ω, H.setV hd (by simp only [VR]; exact hvx)⟩)
                | place _ _ _ _ _ _ _ _ hn => exact absurd rfl hn
                | fresh _ _ _ _ _ _ hn => exact absurd rfl hn
              | false =>
                rw [hbe] at hr
                simp only [cond_false] at hr ⊢
                cases hby : decide ((ns.map (AV.int .u8)).length ≤ 140737488355328) with
                | false => rw [hby] at hr; exact absurd rfl hr
                | true =>
                  simp only [cond_true]
                  have hne : (ns.map (AV.int .u8)).length ≠ 0 := by
                    intro h0
                    rw [List.eq_nil_of_length_eq_zero h0] at hbe
                    cases hbe
                  obtain ⟨v, w', hrun, hA⟩ := append_raw (ty := o.type) hT ht hk hei hu (n0 := 0) (olds := []) ⟨none, 0, hvx⟩ hlen hfirst' (fun w' _ => by rw [hvx]; simp [Builtin.firstCells]) (by simp) hflat.1 hflat.2.2 (by rw [h2]; simpa using of_decide_eq_true hby) hb0
                    (by rw [hvx]; exact ⟨none, 0, 0, rfl, Nat.le_refl _, fun _ => rfl, .inl rfl⟩)
                  cases hA with
                  | same h0 => exact absurd h0 hne
                  | place b off cap z hv _ _ _ _ => rw [hvx] at hv; cases hv
                  | fresh z te cap hlt hzc hzr hn hte =>
                    subst hte
                    rw [h1, Nat.mul_one] at hzc
                    obtain ⟨ω', F, hnew, hext⟩ := (H.drew).newH z te (cs := ns.map (.byt te)) (by
                      refine .of_get ?_ fun i q v hq hv => ?_
                      · rw [List.length_take]
                        apply Nat.min_eq_left
                        have hz' : z.toList.length = cap := by simpa using hzc
                        simp only [List.length_map] at hlt ⊢
                        omega
                      · obtain ⟨v', h1', h2'⟩ := hfb.get hq
                        have := hzr i v' (by simpa using h1')
                        rw [List.getElem?_take] at hv
                        split at hv
                        · rw [Array.getElem?_toList, this] at hv; cases hv; exact h2'
                        · simp at hv) (fun t ht => bytM_tag ht)
                    have hnew' : (β ++ [(w.drew.heap.size, z.size)])[h.length]? = some (w.heap.size, z.size) := hnew
                    refine After.val (append_exec ho hb hts hxs hrun) (Sat.up ⟨_, _, γ, lam, ω', F.setV hd ?_⟩)
                    simp only [VR]
                    have hz0 : z.size ≠ 0 := by omega
                    exact .inl ⟨(w.heap.size, z.size), cap, hnew', hz0, by simp, by omega, by simp [hzc]⟩
            · -- a row of the heap
              cases X with
              | hs l off len sz ag =>
                cases off with
                | succ k => exact absurd rfl hr
                | zero =>
                  by_cases hsa : sz = 1 ∧ ag = false
                  case neg =>
                    refine absurd ?_ hr
                    rcases sz with _ | _ | sz
                    · rfl
                    · cases ag
                      · exact absurd ⟨rfl, rfl⟩ hsa
                      · rfl
                    · rfl
                  obtain ⟨rfl, rfl⟩ := hsa
                  simp only at hr ⊢
                  cases hcs : h[l]? with
                  | none => rw [hcs] at hr; exact absurd rfl hr
                  | some cs =>
                    rw [hcs] at hr
                    simp only at hr ⊢
                    cases hc2 : (cs.all (isByt el) && decide (len ≤ cs.length) && decide (0 < len) && decide (len + (ns.map (AV.int .u8)).length ≤ 140737488355328)) with
                    | false => rw [hc2] at hr; exact absurd rfl hr
                    | true =>
                      simp only [cond_true]
                      simp only [Bool.and_eq_true, decide_eq_true_eq] at hc2
                      obtain ⟨⟨⟨k3, k4⟩, k5⟩, k6⟩ := hc2
                      have hvx0 := hvx
                      have hne : cs ≠ [] := by
                        rintro rfl
                        simp at k4
                        omega
                      have hl : l < h.length := by
                        rcases Nat.lt_or_ge l h.length with h' | h'
                        · exact h'
                        · rw [List.getElem?_eq_none h'] at hcs; simp at hcs
                      simp only [VR] at hvx
                      rcases hvx with ⟨⟨b, nb⟩, cap, hβ, hb0', hvx, hlc, hcn⟩ | ⟨h00, q, hvx⟩
                      · obtain ⟨z, j1, j2, j3, j4, j5⟩ := H.heap.cells hcs hne hβ hb0'
                        rw [hβ] at j1
                        simp only [Option.some.injEq, Prod.mk.injEq, true_and] at j1
                        subst j1
                        have hzs : cs.length ≤ z.size := by have := j4.length; simp at this; omega
                        have hol : (z.toList.take len).length = len := by simp; omega
                        have j6 : VRs S β (cs.take len) (z.toList.take len) := by
                          have := j4.take len
                          rw [List.take_take, Nat.min_eq_left k4] at this
                          exact this
                        have hcl : (cs.take len).length = len := by simp; omega
                        have hold : ∀ w' : World, (∀ a : Addr, w'.cell? a = w.cell? a) → (Builtin.firstCells ei.size len (a.eval x)).run P w' = .ok (z.toList.take len).toArray w' := fun w' hw' => by
                          rw [hvx, h1]
                          refine run_firstCells_some w' 1 len ⟨b, 0, none⟩ len cap _ (by rw [hol, Nat.mul_one]) fun j q hq => ?_
                          rw [addr_add, Nat.zero_add, hw', j2.cell]
                          rw [List.getElem?_take] at hq
                          split at hq
                          · simpa using hq
                          · simp at hq
                        have hroom : RoomOf w ei.size (a.eval x) := ⟨_, len, cap, hvx, hlc, (fun h => by cases h), .inr ⟨b, 0, z, rfl, j2, by rw [h1]; exact hcn⟩⟩
                        obtain ⟨v, w', hrun, hA⟩ := append_raw (ty := o.type) hT ht hk hei hu (n0 := len) (olds := z.toList.take len) ⟨_, cap, hvx⟩ hlen hfirst' hold (by rw [h1, Nat.mul_one]; exact hol) hflat.1 hflat.2.2 (by rw [h2, Nat.mul_one]; exact k6) hb0 hroom
                        have hexec := append_exec ho hb hts hxs hrun
                        have hnb : ∀ t, InTag t (cs.take len ++ ns.map (.byt el)) → t = el := fun t ht => by
                          rcases ht.append with ht | ht
                          · exact isByt_tag k3 (ht.mono fun a => List.mem_of_mem_take)
                          · exact bytM_tag ht
                        cases hA with
                        | same h0 =>
                          have hbs : ns = [] := by simpa using h0
                          subst hbs
                          exact After.val hexec (Sat.up ⟨S, β, γ, lam, ω, H.setV hd hvx0⟩)
                        | place b2 off2 cap2 z2 hv2 hr2 hlt2 hc2' hn2 =>
                          have hbe : (ns.map (AV.int .u8)).isEmpty = false := by cases ns <;> simp_all
                          rw [hbe]
                          simp only [cond_false]
                          rw [hvx] at hv2
                          simp only [Value.slice.injEq, Option.some.injEq, Addr.mk.injEq] at hv2
                          obtain ⟨⟨rfl, rfl, _⟩, _, rfl⟩ := hv2
                          cases j2.inj hr2
                          rw [h1, Nat.mul_one] at hexec
                          rw [Nat.mul_one] at hcn
                          have hlt3 : len + ns.length ≤ cap := by simpa using hlt2
                          have hysz : (z.toList.take (0 + len) ++ news ++ z.toList.drop (0 + len + news.length)).toArray.size = z.size := by simp; omega
                          have hyv : VRs S β (cs.take len ++ ns.map (.byt el)) ((z.toList.take (0 + len) ++ news ++ z.toList.drop (0 + len + news.length)).toArray.toList.take (cs.take len ++ ns.map (AV.byt el)).length) := by
                            have hl1 : (z.toList.take (0 + len) ++ news).length = (cs.take len ++ ns.map (AV.byt el)).length := by
                              rw [List.length_append, List.length_append, Nat.zero_add, hol, hcl, hnl, List.length_map]
                            show VRs S β _ (List.take _ (z.toList.take (0 + len) ++ news ++ z.toList.drop (0 + len + news.length)))
                            rw [List.take_left' hl1, Nat.zero_add]
                            exact j6.append hfb
                          have hne2 : cs.take len ++ ns.map (AV.byt el) ≠ [] := by
                            intro h0
                            have := congrArg List.length h0
                            rw [List.length_append, hcl] at this
                            simp at this
                            omega
                          have F1 := H.turnH hcs hne ⟨_, hβ⟩ j2 hysz hyv (fun t ht => by rw [hnb t ht]; exact isByt_in k3 (by omega))
                          have hcs1 : (h.set l (cs.take len ++ ns.map (.byt el)))[l]? = some (cs.take len ++ ns.map (.byt el)) := by simp [hl]
                          obtain ⟨ω', F2, hnew, hext⟩ := F1.moveH hcs1 hne2 ⟨_, hβ⟩ j2.setRow hyv (fun t ht => ht)
                          have hset : (h.set l (cs.take len ++ ns.map (.byt el))).set l [] = h.set l [] := by simp
                          rw [hset] at F2
                          rw [List.length_set] at hnew
                          refine After.val hexec (Sat.up ⟨_, _, γ, lam, ω', F2.setV hd ?_⟩)
                          simp only [VR]
                          exact .inl ⟨_, cap, hnew, by simp only; rw [hysz]; exact hb0', rfl, hlt2, by simp only; rw [hysz, Nat.mul_one]; exact hcn⟩
                        | fresh z2 te cap2 hlt2 hzc hzr hn2 hte =>
                          subst hte
                          have hbe : (ns.map (AV.int .u8)).isEmpty = false := by cases ns <;> simp_all
                          rw [hbe]
                          simp only [cond_false]
                          rw [h1, Nat.mul_one] at hzc
                          have F1 := (H.drew).killH l
                          obtain ⟨ω', F2, hnew, hext⟩ := F1.newH z2 te (cs := cs.take len ++ ns.map (.byt te)) (by
                            refine .of_get ?_ fun i q v hq hv => ?_
                            · rw [List.length_take, List.length_append, hcl]
                              apply Nat.min_eq_left
                              have hz' : z2.toList.length = cap2 := by simpa using hzc
                              simp only [List.length_map] at hlt2 ⊢
                              omega
                            · obtain ⟨v', h1', h2'⟩ := (j6.append hfb).get hq
                              have := hzr i v' h1'
                              rw [List.getElem?_take] at hv
                              split at hv
                              · rw [Array.getElem?_toList, this] at hv; cases hv; exact h2'
                              · simp at hv) (fun t ht => hnb t ht)
                          rw [List.length_set] at hnew
                          have hnew' : (β ++ [(w.drew.heap.size, z2.size)])[h.length]? = some (w.heap.size, z2.size) := hnew
                          refine After.val hexec (Sat.up ⟨_, _, γ, lam, ω', F2.setV hd ?_⟩)
                          simp only [VR]
                          have hz0 : z2.size ≠ 0 := by simp only [List.length_map] at hlt2; omega
                          exact .inl ⟨(w.heap.size, z2.size), cap2, hnew', hz0, rfl, hlt2, by simp [hzc]⟩
                      · omega
              | hn => exact absurd rfl hXn
              | _ => exact absurd rfl hr
end
end Go.Av

/- clear on a slice in the heap. Conditions: the table of types is the program's. -/
namespace Go.Av
variable [Dr]
section
variable {P : Program} {cx : Cx} {c : Entry} {N : Nat} {U : Nat → Prop} {e : Env} {h : Hp} {a : Act} {w : World} {S : Stab} {β : List Blk} {γ : Nat → Value} {lam : Nat → Option Nat} {ω : Nat → Owner} {o : Oper} {gid : Nat}
omit [Dr] in
theorem oneCells {cs : List AV} {vs : List Value} (h : VRs S β cs vs) (ho : cs.all okCell = true) : ∀ y ∈ vs, y.oneCell' = true := by
  induction cs generalizing vs with
  | nil => simp [VRs] at h; subst h; intro y hy; simp at hy
  | cons x cs ih =>
    simp only [VRs] at h
    obtain ⟨v, r, rfl, h1, h2⟩ := h
    simp only [List.all_cons, Bool.and_eq_true] at ho
    intro y hy
    rcases List.mem_cons.1 hy with rfl | hy
    · exact (okCell_ok ho.1 h1).2
    · exact ih h2 ho.2 y hy
theorem FR.putH (H : FR c N U e h a w S β γ lam ω) {l off b nb : Nat} {cs acs : List AV} {vs : List Value} (hcs : h[l]? = some cs) (hne : cs ≠ []) (hb : β[l]? = some (b, nb)) (hb0 : nb ≠ 0) (hvs : VRs S β acs vs) (hle : off + acs.length ≤ cs.length) (htag : ∀ t, ¬ InTag t acs) :
    ∃ z, Row w b z ∧ cs.length ≤ z.size ∧ FR c N U e (h.set l (setCells cs off acs)) a (w.setRow b (z.toList.take off ++ vs ++ z.toList.drop (off + vs.length)).toArray) S β γ lam ω := by
  obtain ⟨z, j1, j2, j3, j4, j5⟩ := H.heap.cells hcs hne hb hb0
  rw [hb] at j1; cases j1
  have hvl := hvs.length
  have hzs : cs.length ≤ z.size := by
    have := j4.length
    simp at this
    omega
  refine ⟨z, j2, hzs, H.turnH hcs hne ⟨_, hb⟩ j2 (by simp; omega) ?_ (fun t ht => ht.setCells.resolve_right (htag t))⟩
  rw [setCells_length _ _ _ (by omega)]
  have hsp : VRs S β (setCells cs off acs) (((z.toList.take cs.length).take off ++ vs ++ (z.toList.take cs.length).drop (off + vs.length))) := by
    unfold setCells
    rw [hvl]
    exact ((j4.take off).append hvs).append (j4.drop _)
  have heq : (z.toList.take off ++ vs ++ z.toList.drop (off + vs.length)).take cs.length =
      (z.toList.take cs.length).take off ++ vs ++ (z.toList.take cs.length).drop (off + vs.length) := by
    rw [List.take_append, List.take_append]
    have e1 : (z.toList.take off).length = off := by simp; omega
    rw [List.take_take, List.take_take]
    have e2 : min cs.length off = off := by omega
    have e3 : min off cs.length = off := by omega
    rw [e2, e3, e1]
    have e4 : vs.take (cs.length - off) = vs := List.take_of_length_le (by omega)
    rw [e4]
    congr 1
    rw [List.take_drop, List.length_append, e1]
    congr 2
    omega
  show VRs S β _ (List.take _ _)
  rw [show (z.toList.take off ++ vs ++ z.toList.drop (off + vs.length)).toArray.toList = (z.toList.take off ++ vs ++ z.toList.drop (off + vs.length)) from rfl, heq]
  exact hsp
omit [Dr] in
theorem zeroCells_list (z : Array Value) (n : Nat) : (Builtin.zeroCells z n).toList = (List.replicate n z.toList).flatten := by
  induction n with
  | zero => simp [Builtin.zeroCells]
  | succ n ih =>
    rw [List.replicate_succ', List.flatten_append, ← ih]
    unfold Builtin.zeroCells
    apply List.ext_getElem
    · simp [Nat.succ_mul]
    · intro i h1 h2
      simp only [Array.length_toList, Array.size_map, Array.size_range] at h1
      simp only [Array.toList_map, Array.toList_range, List.getElem_map, List.getElem_range, List.flatten_cons, List.flatten_nil, List.append_nil]
      by_cases hi : i < n * z.size
      · rw [List.getElem_append_left (by simpa using hi)]
        simp
      · rw [List.getElem_append_right (by simpa using hi)]
        rw [Nat.succ_mul] at h1
        have hm : i % z.size = i - n * z.size := by
          rw [show i = (i - n * z.size) + n * z.size by omega, Nat.add_mul_mod_self_right, Nat.mod_eq_of_lt (by omega)]
          omega
        simp [hm, getElem!_pos z (i - n * z.size) (by omega)]
omit [Dr] in
theorem VRs_rep {cs : List AV} {vs : List Value} (h : VRs S β cs vs) : ∀ n, VRs S β (List.replicate n cs).flatten (List.replicate n vs).flatten
  | 0 => by simp [VRs]
  | n + 1 => by
    simp only [List.replicate_succ, List.flatten_cons]
    exact h.append (VRs_rep h n)
theorem clear_op (hT : TOK P cx.T) (H : FR c N U e h a w S β γ lam ω) (hd : ∀ t, o.dst = some t → t < N) {cc : Call} (ho : o.op = .call cc) (hcal : cc.callee = .builtin .clear) {t : TypeId} {ts : List TypeId} {x : Operand} {xs : List Operand}
    (hts : cc.argTypes.toList = t :: ts) (hxs : cc.args.toList = x :: xs) (hx : ∀ t, x = .tmp t → t < 1000)
    (hr : runAct e o.dst (.dyn (clearH cx.T t (opnd e x)) .ofV) h ≠ .fail) : After P c N (UG U gid) (runAct e o.dst (.dyn (clearH cx.T t (opnd e x)) .ofV) h) o a w := by
  have hxv := opnd_ok H x hx
  have h1 : cc.argTypes = (t :: ts).toArray := by apply Array.ext'; simpa using hts
  have h2 : cc.args.map a.eval = (a.eval x :: xs.map a.eval).toArray := by
    apply Array.ext'
    simp [hxs]
  have hexec : ∀ w', (Builtin.clear_ cc.argTypes o.type (cc.args.map a.eval)).run P w = .ok (.tuple #[]) w' → (execOp a.eval o).run P w = .ok (.value (.tuple #[])) w' := fun w' hh => by
    simp only [execOp, ho, resolve, hcal, invoke, builtin, pure_bind, Sem.run_bind, hh, Result.andThen_ok, Sem.run_pure]
  simp only [runAct, bnd] at hr ⊢
  unfold clearH at hr ⊢
  cases ht : cx.T t with
  | none => rw [ht] at hr; exact absurd rfl hr
  | some ti =>
    rw [ht] at hr
    simp only at hr ⊢
    cases hk : ti.kind <;> rw [hk] at hr <;> (try exact absurd rfl hr)
    rename_i el
    simp only at hr ⊢
    cases hel : cx.T el with
    | none => rw [hel] at hr; exact absurd rfl hr
    | some ei =>
      rw [hel] at hr
      simp only at hr ⊢
      have hti := hT.get ht
      obtain ⟨ii, d, z, hii, hdd, hzz, _, _, _, hkd, _⟩ := hti.ex
      have hdsl : d = .slice el := by
        rw [hk] at hkd
        cases d <;> simp_all [kindOf]
      subst hdsl
      obtain ⟨ie, de, ze, hie, _, hze, hzs, hsz, _⟩ := (hT.get hel).ex
      have hzr : ∀ w : World, (zeroValue el).run P w = .ok ze w := fun w => by simp [zeroValue, typeInfo, hie, hze]
      have h0 := zerosOf_ok (S := S) (β := β) hT hel false hie hze
      have h0' : VRs S β ei.zero ze.cells.toList := h0
      have hupd : ∀ E : Env, ∀ d, Sat c N (UG U gid) (E.upd d (.ofV (.tup []))) h a w → True := fun _ _ _ => trivial
      have hbase : ∀ a' n cap, a.eval x = .slice a' n cap → (n = 0 ∨ a' = none) → (Builtin.clear_ cc.argTypes o.type (cc.args.map a.eval)).run P w = .ok (.tuple #[]) w := by
        intro a' n cap he h3
        rw [h1, h2, he]
        rcases h3 with rfl | rfl
        · cases a' <;> simp [Builtin.clear_, run_underlying hdd]
        · simp [Builtin.clear_, run_underlying hdd]
      generalize hq : opnd e x = q at hr hxv ⊢
      cases q <;> (try exact absurd rfl hr)
      case sl es =>
        cases es with
        | cons y ys => exact absurd rfl hr
        | nil =>
          simp only [VR] at hxv
          obtain ⟨a', cap, he, _⟩ := hxv
          have he' : a.eval x = .slice a' 0 cap := by simpa using he
          exact After.val (v := .tuple #[]) (hexec w (hbase a' 0 cap he' (.inl rfl))) (Sat.up ⟨_, _, _, _, _, H.setV hd (by simp [VR, VRs])⟩)
      case hs l off len sz ag =>
        simp only at hr ⊢
        cases hcs : h[l]? with
        | none => rw [hcs] at hr; exact absurd rfl hr
        | some cs =>
          rw [hcs] at hr
          simp only at hr ⊢
          cases hcond : (Nat.beq sz ei.size && decide (off + len * sz ≤ cs.length) && decide (0 < len) && decide (0 < sz) && ei.zero.all okCell) with
          | false => rw [hcond] at hr; exact absurd rfl hr
          | true =>
            rw [hcond] at hr
            simp only [cond_true] at hr ⊢
            simp only [Bool.and_eq_true, decide_eq_true_eq] at hcond
            obtain ⟨⟨⟨⟨k1, k2⟩, k3⟩, k4⟩, k5⟩ := hcond
            have k1' := Nat.eq_of_beq_eq_true k1
            obtain ⟨⟨b, nb⟩, cap, hb, hb0, he, hlc, hfit⟩ := hxv.hs_pos k3
            have hzl : ei.zero.length = sz := by
              have := h0'.length
              simp at this
              omega
            have hpos : 0 < len * sz := Nat.mul_pos k3 k4
            have hne : cs ≠ [] := by rintro rfl; simp at k2; omega
            have hrl : (List.replicate len ei.zero).flatten.length = len * sz := by simp [hzl]
            obtain ⟨z', j1, j2, F⟩ := H.putH (off := off) hcs hne hb hb0 (VRs_rep h0' len) (by rw [hrl]; omega) (fun t ht => by
              obtain ⟨a, ht, hta⟩ := ht
              simp only [List.mem_flatten] at ht
              obtain ⟨l', hl', ht⟩ := ht
              rw [List.eq_of_mem_replicate hl'] at ht
              exact nob_cells k5 t ⟨a, ht, hta⟩)
            have hone : ∀ y ∈ (List.replicate len ze.cells.toList).flatten, y.oneCell' = true := by
              intro y hy
              simp only [List.mem_flatten] at hy
              obtain ⟨l', hl', hy⟩ := hy
              rw [List.eq_of_mem_replicate hl'] at hy
              exact oneCells h0' k5 y hy
            obtain ⟨te, hrow⟩ := j1
            have hvl : (List.replicate len ze.cells.toList).flatten.length = len * sz := by
              have := (VRs_rep h0' len).length
              omega
            have hst := run_storeCells_at P b off te (List.replicate len ze.cells.toList).flatten 0 z' w hrow (by omega) hone
            simp only [Nat.add_zero] at hst
            refine After.val (v := .tuple #[]) (hexec _ ?_) (Sat.up ⟨_, _, _, _, _, F.setV hd (by simp [VR, VRs])⟩)
            rw [h1, h2, he]
            obtain ⟨m, rfl⟩ : ∃ m, len = m + 1 := ⟨len - 1, by omega⟩
            simp [Builtin.clear_, run_underlying hdd, hzr, zeroCells_list, hst]
end
end Go.Av

/- What the operations of the abstract evaluator read and write. No condition. -/
namespace Go.Av
variable [Dr]
def ActAll (p : Upd → Prop) : Act1 → Prop
  | .bad => True
  | .stat u => p u
  | .dyn _ sh => ∀ v, p (sh v)
  | .thr _ => True
omit [Dr] in
theorem ActAll.cond {p : Upd → Prop} {b : Bool} {x y : Act1} (h1 : b = true → ActAll p x) (h2 : b = false → ActAll p y) : ActAll p (bif b then x else y) := by
  cases b with
  | true => exact h1 rfl
  | false => exact h2 rfl
structure Shape (e : Env) (gid : Nat) (f : Foot) (ss : Option Nat) (u : Upd) : Prop where
  ls : f.wl = false → u.ls = []
  lb : f.wl = false → u.lb = none
  unlb : f.wl = false → u.unlb = none
  add : f.wl = false → ∀ x ∈ u.add, x.1 = gid
  noad : f.ad = false → u.add = []
  nodr : f.dr = false → u.drop = none
  loc : f.wl = false → ∀ C off, u.ent.v = .loc C off → ∃ t off', (e.get t).v = .loc C off'
  keys : ∀ x ∈ u.ls, 1000 ≤ x.1 ∨ ss = some x.1
omit [Dr] in
theorem Shape.ofV (e : Env) (gid : Nat) (f : Foot) (ss : Option Nat) (a : AV) : Shape e gid f ss (.ofV a) :=
  ⟨fun _ => rfl, fun _ => rfl, fun _ => rfl, fun _ x h => by simp [Upd.ofV] at h, fun _ => rfl, fun _ => rfl, fun _ C off h => by simp [Upd.ofV] at h, fun x h => by simp [Upd.ofV] at h⟩
omit [Dr] in
theorem Shape.own (e : Env) (gid : Nat) (f : Foot) (ss : Option Nat) (a : AV) (z : Option Nat) (h : f.ad = true) : Shape e gid f ss (.own a gid z) :=
  ⟨fun _ => rfl, fun _ => rfl, fun _ => rfl, fun _ x h => by simp [Upd.own] at h; rw [h], fun h' => by (rw [h] at h'; cases h'), fun _ => rfl, fun _ C off h => by simp [Upd.own] at h, fun x h => by simp [Upd.own] at h⟩
omit [Dr] in
theorem Shape.ent (e : Env) (gid : Nat) (f : Foot) (ss : Option Nat) (x : Ent) (h : ∀ C off, x.v = .loc C off → ∃ t off', (e.get t).v = .loc C off') : Shape e gid f ss { ent := x } :=
  ⟨fun _ => rfl, fun _ => rfl, fun _ => rfl, fun _ x h => by simp at h, fun _ => rfl, fun _ => rfl, fun _ C off h' => h C off h', fun x h => by simp at h⟩
omit [Dr] in
theorem Shape.get (e : Env) (gid : Nat) (f : Foot) (ss : Option Nat) (t : Nat) : Shape e gid f ss { ent := e.get t } := .ent _ _ _ _ _ fun _ off h => ⟨t, off, h⟩
omit [Dr] in
theorem keys_lsOf {B n gid : Nat} {cs : List AV} {offs : List Nat} (hB : 1000 ≤ B) : ∀ x ∈ lsOf B cs offs gid n, 1000 ≤ x.1 := by
  intro x hx
  unfold lsOf at hx
  simp only [List.mem_map] at hx
  obtain ⟨i, _, rfl⟩ := hx
  simp only
  omega
omit [Dr] in
theorem gsOf_nil {offs : List Nat} {gid : Nat} (h : offs.isEmpty = true) : gsOf offs gid = [] := by
  have : offs = [] := by simpa using h
  subst this; rfl
variable {cx : Cx} {e : Env} {gid : Nat} {o : Oper}
omit [Dr] in
theorem move_shape (told : Bool) (x : Operand) (f : Foot) (hf : f.ad = isNilConst x) : ActAll (Shape e gid f none) (opMove told e gid x) := by
  unfold opMove
  split
  · exact Shape.get ..
  · cases h : isNilConst x with
    | true =>
      cases told with
      | true => exact Shape.ofV ..
      | false => exact Shape.own _ _ _ _ _ _ (by rw [hf, h])
    | false => exact Shape.ofV ..
omit [Dr] in
theorem inLb_inv {e : Env} {B off n : Nat} (h : inLb e B off n = true) : ∃ m, lbSize e.lb B = some m ∧ off + n ≤ m ∧ 1000 ≤ B := by
  unfold inLb at h
  split at h
  · rename_i m hm; simp at h; exact ⟨m, hm, h.1, h.2⟩
  · simp at h
omit [Dr] in
theorem load_shape (d : Option Tmp) (t : TypeId) (p : Nat) (f : Foot) : ActAll (Shape e gid f none) (opLoad cx e d t p) := by
  unfold opLoad
  split
  · split
    · trivial
    · cases inLb e _ _ _ with
      | false => trivial
      | true =>
        simp only [cond_true]
        rename_i ti _
        cases ti.agg with
        | true => exact Shape.ofV ..
        | false =>
          simp only [cond_false]
          cases decide (ti.size = 1) with
          | true => exact Shape.get ..
          | false => trivial
  · cases memO cx.ann.hl d with
    | true => exact fun v => Shape.ofV ..
    | false => exact fun v => Shape.ofV ..
omit [Dr] in
theorem Shape.wl {e : Env} {gid : Nat} {f : Foot} {ss : Option Nat} {u : Upd} (hw : f.wl = true) (h1 : f.ad = false → u.add = []) (h2 : u.drop = none) (h3 : ∀ x ∈ u.ls, 1000 ≤ x.1 ∨ ss = some x.1) : Shape e gid f ss u :=
  ⟨fun h => by (rw [hw] at h; cases h), fun h => by (rw [hw] at h; cases h), fun h => by (rw [hw] at h; cases h), fun h => by (rw [hw] at h; cases h), h1, fun _ => h2, fun h => by (rw [hw] at h; cases h), h3⟩
omit [Dr] in
theorem store_shape (t p : Nat) (y : Operand) (f : Foot) (hw : f.wl = true) (ha : f.ad = (!(findN cx.ann.nils p).isEmpty || isNilConst y)) : ActAll (Shape e gid f (some p)) (opStore cx e gid t p y) := by
  unfold opStore
  split
  · rename_i B off _
    split
    · trivial
    · rename_i ti _
      cases hlb : inLb e B off ti.size with
      | false => trivial
      | true =>
        obtain ⟨m, _, _, hB⟩ := inLb_inv hlb
        simp only [cond_true]
        cases isS (findK cx.ann.kinds p .L) with
        | true =>
          simp only [cond_true]
          cases wholeB e B off p ti.size with
          | false => trivial
          | true =>
            simp only [cond_true]
            exact fun v => Shape.wl hw (fun _ => rfl) rfl (fun x hx => by simp at hx; exact .inr (by rw [hx]))
        | false =>
          simp only [cond_false]
          cases ti.agg with
          | true =>
            simp only [cond_true]
            refine fun v => Shape.wl hw (fun h => ?_) rfl (fun x hx => .inl (keys_lsOf (by omega) x hx))
            rw [ha] at h
            simp only [Bool.or_eq_false_iff, Bool.not_eq_false'] at h
            exact gsOf_nil h.1
          | false =>
            simp only [cond_false]
            cases decide (ti.size = 1) with
            | false => trivial
            | true =>
              simp only [cond_true]
              split
              · split
                · exact fun v => Shape.wl hw (fun _ => rfl) rfl (fun x hx => by simp at hx; rw [hx]; exact .inl (by simp only; omega))
                · trivial
              · cases hn : isNilConst y with
                | true =>
                  refine Shape.wl hw (fun h => ?_) rfl (fun x hx => by simp at hx; rw [hx]; exact .inl (by simp only; omega))
                  rw [ha, hn] at h
                  simp at h
                | false => exact fun v => Shape.wl hw (fun _ => rfl) rfl (fun x hx => by simp at hx; rw [hx]; exact .inl (by simp only; omega))
  · exact fun v => Shape.ofV ..
omit [Dr] in
theorem field_shape (t p i : Nat) (f : Foot) : ActAll (Shape e gid f none) (opField cx e t p i) := by
  unfold opField
  split
  · rename_i B off hv
    split
    · trivial
    · split
      · trivial
      · split
        · trivial
        · rename_i fi _
          cases decide (fi.size = 0) with
          | true => trivial
          | false => exact Shape.ent _ _ _ _ _ fun C o' h => ⟨p, off, by simp at h; rw [hv, h.1]⟩
  · exact fun v => Shape.ofV ..
omit [Dr] in
theorem index_shape (t p : Nat) (i : Operand) (f : Foot) : ActAll (Shape e gid f none) (opIndexAddr cx e t p i) := by
  unfold opIndexAddr
  split
  · rename_i B off hv
    split
    · split
      · split
        · trivial
        · refine ActAll.cond (p := Shape e gid f none) (y := .bad) (fun _ => ?_) (fun _ => trivial)
          exact Shape.ent _ _ _ _ _ fun C o' h => ⟨p, off, by simp at h; rw [hv, h.1]⟩
      · trivial
    · trivial
  · exact fun v => Shape.ofV ..
omit [Dr] in
theorem alloc_shape (s t : Nat) (f : Foot) (hf : f = (match findK cx.ann.kinds s .L with | .F => {} | .H => { wh := true } | .B => { wh := true } | _ => { wl := true, ad := !(findN cx.ann.nils s).isEmpty })) : ActAll (Shape e gid f none) (opAlloc cx e gid s t) := by
  unfold opAlloc
  split
  · trivial
  · rename_i ti _
    have key : f.wl = true → (f.ad = !(findN cx.ann.nils s).isEmpty) → ActAll (Shape e gid f none) (match findN cx.ann.nils s with
      | offs => bif decide (ti.size < 1000) && locFree e.sl (lbase s) && nilsAt (zerosOf true ti) offs ti.size then
          .stat { ent := ⟨.loc (lbase s) 0, none⟩, ls := lsOf (lbase s) (zerosOf (memN cx.ann.hb s) ti) offs gid ti.size, add := gsOf offs gid, lb := some (lbase s, ti.size) } else .bad) := by
      intro hw ha
      simp only
      cases decide (ti.size < 1000) && locFree e.sl (lbase s) && nilsAt (zerosOf true ti) (findN cx.ann.nils s) ti.size with
      | false => trivial
      | true => exact Shape.wl hw (fun h => gsOf_nil (by rw [ha] at h; simpa using h)) rfl (fun x hx => .inl (keys_lsOf (by unfold lbase; omega) x hx))
    cases hk : findK cx.ann.kinds s .L with
    | F => exact Shape.ofV ..
    | H => exact fun v => Shape.ofV ..
    | B => exact fun v => Shape.ofV ..
    | L => rw [hk] at hf; exact key (by rw [hf]) (by rw [hf])
    | S => rw [hk] at hf; exact key (by rw [hf]) (by rw [hf])
omit [Dr] in
theorem box_shape (s t : Nat) (x : Operand) (f : Foot) (hf : f = (match findK cx.ann.kinds s .F with | .F => {} | .H => { wh := true } | .B => { wh := true } | _ => { wl := true })) : ActAll (Shape e gid f none) (opBox cx e s t x) := by
  unfold opBox
  have key : f.wl = true → ActAll (Shape e gid f none) (match cx.T t with
    | none => .bad
    | some ti => bif decide (ti.size < 1000) && locFree e.sl (lbase s) then
        .dyn (cellsM ti.size (opnd e x)) fun v => { ent := ⟨.loc (lbase s) 0, none⟩, ls := lsOf (lbase s) (acells v) [] 0 ti.size, lb := some (lbase s, ti.size) }
      else .bad) := by
    intro hw
    split
    · trivial
    · rename_i ti _
      cases decide (ti.size < 1000) && locFree e.sl (lbase s) with
      | false => trivial
      | true => exact fun v => Shape.wl hw (fun _ => rfl) rfl (fun x hx => .inl (keys_lsOf (by unfold lbase; omega) x hx))
  cases hk : findK cx.ann.kinds s .F with
  | F => exact Shape.ofV ..
  | H => exact fun v => Shape.ofV ..
  | B => trivial
  | L => rw [hk] at hf; exact key (by rw [hf])
  | S => rw [hk] at hf; exact key (by rw [hf])
omit [Dr] in
theorem call_shape (c : Call) (f : Foot) (ho : o.op = .call c) (hf : f = footOf cx o) : ActAll (Shape e gid f none) (opCall cx e gid o c) := by
  unfold opCall
  cases hc : c.callee with
  | invoke r m => trivial
  | value x =>
    cases x with
    | func g =>
      simp only
      refine ActAll.cond (fun _ => ActAll.cond (fun _ v => Shape.ofV ..) (fun _ => trivial)) fun _ => ?_
      intro v
      cases ho' : cx.own g with
      | none => exact Shape.ofV ..
      | some z =>
        refine Shape.own _ _ _ _ _ _ ?_
        rw [hf]
        unfold footOf
        rw [ho]
        simp only [hc, ho']
        cases cx.iso g <;> rfl
    | tmp t => exact fun v => Shape.ofV ..
    | const t => exact fun v => Shape.ofV ..
    | global t => exact fun v => Shape.ofV ..
  | builtin b =>
    cases b <;> simp only <;> (try trivial)
    case clear =>
      split
      · exact fun v => Shape.ofV ..
      · trivial
    case append =>
      split
      · rename_i t u x y hts hxs
        cases isAppT cx.T u with
        | false => trivial
        | true =>
          simp only [Bool.not_true, cond_false]
          cases hha : memO cx.ann.ha o.dst with
          | true => exact fun v => Shape.ofV ..
          | false =>
            have hfa : f.ad = true ∧ f.wl = false ∧ f.dr = !isNilConst x := by
              rw [hf]; unfold footOf; rw [ho]; simp only [hc, hha, cond_false, hxs]; exact ⟨trivial, trivial, trivial⟩
            cases hn : isNilConst x with
            | true => exact fun v => Shape.own _ _ _ _ _ _ hfa.1
            | false =>
              simp only [cond_false]
              split
              · split
                · trivial
                · split
                  · trivial
                  · rename_i z _
                    cases szOk z (elemSize cx.T t) with
                    | false => trivial
                    | true =>
                      simp only [cond_true]
                      intro v
                      have hdr : f.dr = true := by rw [hfa.2.2, hn]; rfl
                      exact ⟨fun _ => rfl, fun _ => rfl, fun _ => rfl, fun _ x h => by simp [Upd.own] at h; rw [h], fun h' => by (rw [hfa.1] at h'; cases h'), fun h' => by (rw [hdr] at h'; cases h'), fun _ C off h => by simp [Upd.own] at h, fun x h => by simp [Upd.own] at h⟩
              · trivial
      · trivial
    case len =>
      split
      · exact fun v => Shape.ofV ..
      · trivial
    case min => exact fun v => Shape.ofV ..
    case max => exact fun v => Shape.ofV ..
omit [Dr] in
theorem fzA_shape (f : Foot) (ss : Option Nat) (A : Act1) : ActAll (Shape e gid f ss) (fzA A) := by
  cases A with
  | bad => trivial
  | stat u => exact fun v => Shape.ofV ..
  | dyn m sh => exact fun v => Shape.ofV ..
  | thr v => trivial
omit [Dr] in
theorem opD_shape (cx : Cx) (e : Env) (gid : Nat) (o : Oper) : ActAll (Shape e gid (footOf cx o) (storeSlot o)) (opD cx e gid o) := by
  have hss : (∀ t p y, o.op ≠ .store t (.tmp p) y) → storeSlot o = none := by
    intro h; unfold storeSlot; split
    · rename_i t p y hq; exact absurd hq (h t p y)
    · rfl
  unfold opD
  cases ho : o.op
  case store t x y =>
    simp only
    cases x <;> (try trivial)
    rename_i p
    cases hd : o.dst with
    | some d => trivial
    | none =>
      have h1 : storeSlot o = some p := by unfold storeSlot; rw [ho]
      rw [h1]
      exact ActAll.cond (fun _ => trivial) fun _ => store_shape t p y _ (by unfold footOf; rw [ho]) (by unfold footOf; rw [ho])
  all_goals
    have hs0 := hss (by rw [ho]; intros; simp)
    rw [hs0]
    simp only
  case move x => exact move_shape _ x _ (by unfold footOf; rw [ho])
  case assign x => exact move_shape _ x _ (by unfold footOf; rw [ho])
  case box t x =>
    cases hd : o.dst with
    | none => trivial
    | some s => exact box_shape s t x _ (by unfold footOf; rw [ho]; simp only [hd]; cases findK cx.ann.kinds s .F <;> rfl)
  case alloc t =>
    cases hd : o.dst with
    | none => trivial
    | some s => exact alloc_shape s t _ (by unfold footOf; rw [ho]; simp only [hd]; cases findK cx.ann.kinds s .L <;> rfl)
  case load t x => cases x <;> first | exact ActAll.cond (fun _ => trivial) (fun _ => ActAll.cond (fun _ => fzA_shape _ _ _) (fun _ => load_shape ..)) | trivial
  case buildSlice =>
    cases hha : memO cx.ann.ha o.dst with
    | true => exact fun v => Shape.ofV ..
    | false =>
      intro v
      cases hno : memO cx.ann.no o.dst with
      | true => exact Shape.ofV ..
      | false => exact Shape.own _ _ _ _ _ _ (by unfold footOf; rw [ho]; simp [hno, hha])
  case makeSlice => exact fun v => Shape.own _ _ _ _ _ _ (by unfold footOf; rw [ho])
  case slice t x lo hi mx =>
    cases mx with
    | none => exact fun v => Shape.ofV ..
    | some m => exact fun v => Shape.own _ _ _ _ _ _ (by unfold footOf; rw [ho]; rfl)
  case nilCheck x =>
    cases x <;> (try trivial)
    simp only
    split
    · exact Shape.get ..
    · exact fun v => Shape.ofV ..
  case fieldAddr t x i => cases x <;> first | exact field_shape .. | trivial
  case indexAddr t x i => cases x <;> first | exact index_shape .. | trivial
  case call c => exact call_shape c _ ho rfl
  case panic x => exact fun v => Shape.ofV ..
  case makeFunc => exact Shape.ofV ..
  case makeMap => exact ActAll.cond (fun _ => trivial) fun _ v => Shape.ofV ..
  case mapUpdate => unfold opPut; split; exact fun v => Shape.ofV ..; trivial
  case insert => unfold opPut; split; exact fun v => Shape.ofV ..; trivial
  case binOp => exact ActAll.cond (fun _ => trivial) fun _ v => Shape.ofV ..
  all_goals first | trivial | exact fun v => Shape.ofV ..
end Go.Av

/- Rows that become immutable. No condition. -/
namespace Go.Av
mutual
theorem cl_ok {S S' : Stab} {β β' : List Blk} {g : Nat → Nat → Nat → Nat → Bool → AV} (hS : S.le S') (hg : ∀ l off len sz ag v, VR S β (.hs l off len sz ag) v → VR S' β' (g l off len sz ag) v) : (a : AV) → (v : Value) → VR S β a v → VR S' β' (cl g a) v
  | .any, _, _ => by simp [cl, VR]
  | .bool _, _, x => by simpa [cl, VR] using x
  | .int _ _, _, x => by simpa [cl, VR] using x
  | .str _, _, x => by simpa [cl, VR] using x
  | .nilp, _, x => by simpa [cl, VR] using x
  | .nilf, _, x => by simpa [cl, VR] using x
  | .nili, _, x => by simpa [cl, VR] using x
  | .mp _, _, _ => by simp [cl, VR]
  | .nilm, _, x => by simpa [cl, VR] using x
  | .nilb _, _, x => by simpa [cl, VR] using x
  | .byt _ _, _, x => by simpa [cl, VR] using x
  | .agg cs, v, x => by
    simp only [cl, VR] at x ⊢
    obtain ⟨vs, rfl, y⟩ := x
    exact ⟨vs, rfl, cls_ok hS hg cs vs y⟩
  | .tup cs, v, x => by
    simp only [cl, VR] at x ⊢
    obtain ⟨vs, rfl, y⟩ := x
    exact ⟨vs, rfl, cls_ok hS hg cs vs y⟩
  | .sl es, v, x => by
    simp only [cl, VR] at x ⊢
    obtain ⟨a, cap, rfl, hc, hn, hq⟩ := x
    have hl : (cls g es).length = es.length := cls_length g es
    refine ⟨a, cap, by rw [hl], by rw [hl]; exact hc, hn, fun q e => ?_⟩
    obtain ⟨hs, sz, he⟩ := hq q e
    exact ⟨hs, sz, els_ok hS hg es _ _ _ he⟩
  | .ip cs, v, x => by
    simp only [cl, VR] at x ⊢
    obtain ⟨b, off, vs, rfl, y, z⟩ := x
    exact ⟨b, off, vs, rfl, cls_ok hS hg cs vs y, z.mono hS⟩
  | .hp l off, v, x => by simp [cl, VR]
  | .hn, v, x => by
    simp only [cl, VR] at x ⊢
    exact ⟨none, 0, x, Nat.le_refl _, fun _ => rfl, fun q hq => by cases hq⟩
  | .hs l off len sz ag, v, x => by
    simp only [cl]
    exact hg l off len sz ag v x
  | .fn f a c, v, x => by
    simp only [cl, VR] at x ⊢
    obtain ⟨x, y, rfl, hx, hy⟩ := x
    exact ⟨x, y, rfl, cls_ok hS hg a x hx, cls_ok hS hg c y hy⟩
  | .iface t a, v, x => by
    simp only [cl, VR] at x ⊢
    obtain ⟨y, rfl, hy⟩ := x
    exact ⟨y, rfl, cl_ok hS hg a y hy⟩
theorem cls_length (g : Nat → Nat → Nat → Nat → Bool → AV) : (cs : List AV) → (cls g cs).length = cs.length
  | [] => rfl
  | c :: cs => by simp [cls, cls_length g cs]
theorem cls_ok {S S' : Stab} {β β' : List Blk} {g : Nat → Nat → Nat → Nat → Bool → AV} (hS : S.le S') (hg : ∀ l off len sz ag v, VR S β (.hs l off len sz ag) v → VR S' β' (g l off len sz ag) v) : (cs : List AV) → (vs : List Value) → VRs S β cs vs → VRs S' β' (cls g cs) vs
  | [], _, x => by simpa [cls, VRs] using x
  | c :: cs, vs, x => by
    simp only [cls, VRs] at x ⊢
    obtain ⟨y, ys, rfl, hy, hys⟩ := x
    exact ⟨y, ys, rfl, cl_ok hS hg c y hy, cls_ok hS hg cs ys hys⟩
theorem els_ok {S S' : Stab} {β β' : List Blk} {g : Nat → Nat → Nat → Nat → Bool → AV} (hS : S.le S') (hg : ∀ l off len sz ag v, VR S β (.hs l off len sz ag) v → VR S' β' (g l off len sz ag) v) : (es : List AV) → (b off sz : Nat) → ElsAt S β es b off sz → ElsAt S' β' (cls g es) b off sz
  | [], _, _, _, _ => by simp [cls, ElsAt]
  | e :: es, b, off, sz, x => by
    simp only [cls, ElsAt] at x ⊢
    obtain ⟨⟨v, hv, hs, hc⟩, hes⟩ := x
    exact ⟨⟨v, cl_ok hS hg e v hv, hs, hc.mono hS⟩, els_ok hS hg es b (off + sz) sz hes⟩
end
variable [Dr]
omit [Dr] in
theorem clean_ok {S : Stab} {β : List Blk} {args : List AV} {vs : List Value} (h : VRs S β args vs) : VRs S [] (cls noHs args) vs :=
  cls_ok (Stab.le_refl S) (fun _ _ _ _ _ _ _ => by simp [noHs, VR]) args vs h
omit [Dr] in
theorem okCell_cells {S : Stab} {β : List Blk} {a : AV} {v : Value} (h : okCell a = true) (hv : VR S β a v) : v.cells = #[v] := by
  cases a <;> simp only [okCell, Bool.false_eq_true] at h <;> simp only [VR] at hv
  case bool => subst hv; rfl
  case int => subst hv; rfl
  case str => obtain ⟨x, rfl, _⟩ := hv; rfl
  case nilp => subst hv; rfl
  case nilf => subst hv; rfl
  case nili => subst hv; rfl
  case sl => obtain ⟨x, c, rfl, _⟩ := hv; rfl
  case ip => obtain ⟨b, o, vs, rfl, _⟩ := hv; rfl
  case hp => obtain ⟨b, _, _, rfl⟩ := hv; rfl
  case mp => obtain ⟨b, _, _, rfl⟩ := hv; rfl
  case nilm => subst hv; rfl
  case hs => rcases hv with ⟨b, c, _, _, rfl, _⟩ | ⟨_, _, rfl⟩ <;> rfl
  case hn => subst hv; rfl
  case fn => obtain ⟨x, y, rfl, _⟩ := hv; rfl
  case iface => obtain ⟨x, rfl, _⟩ := hv; rfl
omit [Dr] in
theorem frz_ok {S S2 : Stab} {β β2 : List Blk} {w : World} {ω : Nat → Owner} {h : Hp} (hH : HeapR S β w ω h) (hS : S.le S2) (h2 : ∀ (b o : Nat) (x : Array Value), HOwn β h b → Row w b x → S2 b o = x[o]?) : ∀ (d : Nat) (a : AV) (v : Value), VR S β a v → VR S2 β2 (frz d h a) v
  | 0, a, v, hv => cl_ok hS (fun _ _ _ _ _ _ _ => by simp [noHs, VR]) a v hv
  | d + 1, a, v, hv => by
    refine cl_ok hS (fun l off len sz ag u hu => ?_) a v hv
    cases hl : h[l]? with
    | none => simp [VR]
    | some cs =>
      simp only
      cases hc : (decide (off + len * sz ≤ cs.length) && decide (0 < sz) && (ag || (Nat.beq sz 1 && cs.all okCell))) with
      | false => simp [VR]
      | true =>
        simp only [Bool.and_eq_true, decide_eq_true_eq, Bool.or_eq_true] at hc
        obtain ⟨⟨hc1, hc2⟩, hc3⟩ := hc
        simp only [cond_true]
        simp only [VR] at hu ⊢
        rcases hu with ⟨⟨b, nb⟩, cap, hβ, hb0, rfl, hlc, hcn⟩ | ⟨h00, q0, rfl⟩
        rotate_left
        · subst h00
          exact ⟨some q0, 0, rfl, Nat.le_refl _, fun _ => rfl, fun q hq => ⟨fun h => absurd h (by omega), sz, trivial⟩⟩
        refine ⟨some ⟨b, off, none⟩, cap, by simp, by simpa using hlc, (fun hh => by cases hh), fun q hq => ?_⟩
        simp only [Option.some.injEq] at hq
        subst hq
        refine ⟨fun _ => rfl, sz, .of_get fun i e he => ?_⟩
        have hi : i < len := by
          rcases Nat.lt_or_ge i len with h' | h'
          · exact h'
          · rw [List.getElem?_eq_none (by simpa using h')] at he; cases he
        rw [List.getElem?_map, List.getElem?_range hi] at he
        simp only [Option.map_some, Option.some.injEq] at he
        have hile : off + i * sz + sz ≤ cs.length := by
          have : (i + 1) * sz ≤ len * sz := Nat.mul_le_mul_right _ hi
          rw [Nat.add_mul] at this
          omega
        have hne : cs ≠ [] := by rintro rfl; simp at hile; omega
        obtain ⟨x, k1, k2, k3, k4, k5⟩ := hH.cells hl hne hβ hb0
        rw [hβ] at k1
        simp only [Option.some.injEq, Prod.mk.injEq, true_and] at k1
        subst k1
        have hx := k4.length
        simp only [List.length_take, Array.length_toList] at hx
        have hS2 : ∀ o, S2 b o = x[o]? := fun o => h2 b o x ⟨l, cs, _, hl, hne, hβ⟩ k2
        subst he
        cases ag with
        | true =>
          simp only [cond_true]
          have hsub := (k4.drop (off + i * sz)).take sz
          refine ⟨.agg (((x.toList.take cs.length).drop (off + i * sz)).take sz).toArray, frz_ok hH hS h2 d _ _ (by simp only [VR]; exact ⟨_, rfl, hsub⟩), ?_, fun j y hy => ?_⟩
          · simp [Value.cells]; omega
          · simp only [Value.cells] at hy
            rw [List.getElem?_take] at hy
            split at hy
            · rw [List.getElem?_drop, List.getElem?_take] at hy
              split at hy
              · rw [hS2]; simpa using hy
              · cases hy
            · cases hy
        | false =>
          simp only [cond_false]
          simp only [Bool.false_eq_true, false_or] at hc3
          have hsz : sz = 1 := Nat.eq_of_beq_eq_true hc3.1
          subst hsz
          have hlt : off + i * 1 < cs.length := by omega
          have hcs : cs[off + i * 1]? = some (nth cs (off + i * 1)) := by unfold nth; rw [List.getD_eq_getElem?_getD, List.getElem?_eq_getElem hlt]; rfl
          obtain ⟨y, hy1, hy2⟩ := k4.get hcs
          have hok := List.all_eq_true.1 hc3.2 _ (List.mem_of_getElem? hcs)
          have hcells := okCell_cells hok hy2
          refine ⟨y, frz_ok hH hS h2 d _ _ hy2, by rw [hcells]; rfl, fun j z hz => ?_⟩
          rw [hcells] at hz
          cases j with
          | zero =>
            simp only [List.getElem?_cons_zero, Option.some.injEq] at hz
            subst hz
            rw [hS2, Nat.add_zero]
            rw [List.getElem?_take, if_pos hlt] at hy1
            rw [← hy1]
            simp
          | succ j => simp at hz
theorem FR.weak {c : Entry} {N : Nat} {U : Nat → Prop} {e e2 : Env} {h : Hp} {a : Act} {w : World} {S : Stab} {β : List Blk} {γ : Nat → Value} {lam : Nat → Option Nat} {ω : Nat → Owner} (H : FR c N U e h a w S β γ lam ω)
    (hv : ∀ t, (e2.get t).v = (e.get t).v ∨ (e2.get t).v = .val .any ∧ t < 1000) (hg : ∀ t g, (e2.get t).g = some g → (e.get t).g = some g)
    (hal : ∀ g z, aliveG e2.al g = some z → aliveG e.al g = some z) (hlb : ∀ B n, lbSize e2.lb B = some n → lbSize e.lb B = some n) : FR c N U e2 h a w S β γ lam ω := by
  refine ⟨H.wf, H.gro, H.keep, H.le, H.ext, H.hlen, H.heap, H.tsz, fun t ht => ?_, fun t g z ht hgg hz => H.grps t g z ht (hg t g hgg) (hal g z hz), fun B n hB => ?_, fun g z hz => H.free g z (hal g z hz), H.mine, ⟨fun t g hgg => H.used.1 t g (hg t g hgg), fun g z hz => H.used.2 g z (hal g z hz)⟩⟩
  · rcases hv t with h1 | ⟨h1, _⟩
    · rw [h1]; exact H.slots t ht
    · rw [h1]; simp [SlotR, VR]
  · obtain ⟨h1, h2, h3, b, x, h4, h5, h6, h7, h8⟩ := H.lblk B n (hlb B n hB)
    refine ⟨h1, h2, h3, b, x, h4, h5, h6, h7, fun i hi => ?_⟩
    obtain ⟨v, a', g1, g2, g3, g4⟩ := h8 i hi
    refine ⟨v, a', g1, ?_, g3, fun g z hgg hz => g4 g z (hg _ g hgg) (hal g z hz)⟩
    rcases hv (B + i) with k1 | ⟨_, k1⟩
    · rw [k1]; exact g2
    · omega
theorem FR.acts {c : Entry} {N : Nat} {U : Nat → Prop} {e : Env} {h : Hp} {a a2 : Act} {w : World} {S : Stab} {β : List Blk} {γ : Nat → Value} {lam : Nat → Option Nat} {ω : Nat → Owner} (H : FR c N U e h a w S β γ lam ω) (ht : a2.tmps = a.tmps) : FR c N U e h a2 w S β γ lam ω :=
  ⟨H.wf, H.gro, H.keep, H.le, H.ext, H.hlen, H.heap, by rw [ht]; exact H.tsz, fun t h => by rw [ht]; exact H.slots t h, fun t g z h => by rw [ht]; exact H.grps t g z h, H.lblk, H.free, H.mine, H.used⟩
open Classical in
theorem FR.freeze {c : Entry} {N : Nat} {U : Nat → Prop} {e : Env} {h : Hp} {a : Act} {w : World} {S : Stab} {β : List Blk} {γ : Nat → Value} {lam : Nat → Option Nat} {ω : Nat → Owner} (H : FR c N U e h a w S β γ lam ω) :
    ∃ S2 ω2, FR c N U e (h.map fun _ => []) a w S2 β γ lam ω2 ∧ ∀ v u, VR S β v u → VR S2 β (frz 6 h v) u := by
  let S2 : Stab := fun b o => if HOwn β h b then w.cell? ⟨b, o, none⟩ else S b o
  let ω2 : Nat → Owner := fun b => if HOwn β h b then .no else ω b
  have hn : ∀ b, ¬ HOwn β h b → ∀ o, S2 b o = S b o := fun b hb o => if_neg hb
  have hy : ∀ b, HOwn β h b → ∀ o, S2 b o = w.cell? ⟨b, o, none⟩ := fun b hb o => if_pos hb
  have hωn : ∀ b, ¬ HOwn β h b → ω2 b = ω b := fun b hb => if_neg hb
  have hωy : ∀ b, HOwn β h b → ω2 b = .no := fun b hb => if_pos hb
  have hho : ∀ b, HOwn β h b → ∃ l, ω b = .heap l := fun b hb => by obtain ⟨l, _, h1, _⟩ := H.hown hb; exact ⟨l, h1⟩
  have hno : ∀ b, (∀ l, ω b ≠ .heap l) → ¬ HOwn β h b := fun b hb ho => by obtain ⟨l, hl⟩ := hho b ho; exact hb l hl
  have hle : S.le S2 := by
    intro b o v hv
    by_cases hb : HOwn β h b
    · obtain ⟨l, x, _, _, _, h5⟩ := H.hown hb
      rw [h5] at hv; cases hv
    · rw [hn b hb]; exact hv
  have hwf : Wf S2 w := by
    intro b o v hv
    by_cases hb : HOwn β h b
    · rw [hy b hb] at hv; exact hv
    · rw [hn b hb] at hv; exact H.wf b o v hv
  refine ⟨S2, ω2, ⟨hwf, H.gro, fun b hb hE => ⟨(H.keep b hb hE).1, fun o => ?_⟩, Stab.le_trans H.le hle, H.ext, by simp [H.hlen], fun l cs hl hcs => ?_, H.tsz, fun t ht => ?_, H.grps, fun B n hB => ?_, fun g z hg => ?_, fun b hb => ?_, H.used⟩, fun v u hv => ?_⟩
  · have : ¬ HOwn β h b := fun ho => by
      obtain ⟨l, hl⟩ := hho b ho
      rcases (H.mine b (by rw [hl]; simp)).1.low with h1 | h1
      · exact hE h1
      · omega
    rw [hn b this]
    exact (H.keep b hb hE).2 o
  · rw [List.getElem?_map] at hl
    cases hq : h[l]? with
    | none => rw [hq] at hl; cases hl
    | some x => rw [hq] at hl; simp at hl; exact absurd hl (fun hh => hcs hh)
  · have := H.slots t ht
    cases hv : (e.get t).v with
    | val av => rw [hv] at this; exact VR.mono hle (Ext.refl β) _ _ this
    | loc B off => rw [hv] at this; exact this
  · obtain ⟨h1, h2, h3, b, x, h4, h5, h6, h7, h8⟩ := H.lblk B n hB
    have hb := hno b (fun l hl => by rw [h6] at hl; cases hl)
    refine ⟨h1, h2, h3, b, x, h4, h5, by rw [hωn b hb]; exact h6, fun o => by rw [hn b hb]; exact h7 o, fun i hi => ?_⟩
    obtain ⟨v, a', g1, g2, g3, g4⟩ := h8 i hi
    exact ⟨v, a', g1, g2, VR.mono hle (Ext.refl β) _ _ g3, g4⟩
  · obtain ⟨a', len, cap, h1, h2, h3, h4⟩ := H.free g z hg
    refine ⟨a', len, cap, h1, h2, h3, h4.imp id ?_⟩
    rintro ⟨sz, b, off, x, g1, g2, g3, g4, g5, g6⟩
    have hb := hno b (fun l hl => by rw [g5] at hl; cases hl)
    exact ⟨sz, b, off, x, g1, g2, g3, g4, by rw [hωn b hb]; exact g5, fun o ho => by rw [hn b hb]; exact g6 o ho⟩
  · by_cases ho : HOwn β h b
    · exact absurd (hωy b ho) hb
    · have hb' : ω b ≠ .no := by rw [← hωn b ho]; exact hb
      exact ⟨(H.mine b hb').1.of_eq (hωn b ho), (H.mine b hb').2⟩
  · exact frz_ok H.heap hle (fun b o x hb hr => by rw [hy b hb, hr.cell]) 6 v u hv
theorem freeze_sat {c : Entry} {N : Nat} {U : Nat → Prop} {e : Env} {h : Hp} {a : Act} {w : World} {gid : Nat} {d : Option Tmp} {u : Upd} (hd : ∀ t, d = some t → t < N) (hs : Shape e gid {} none u)
    (H : Sat c N U (e.upd d u) h a w) : Sat c N U (e.upd d (.ofV (frz 6 h u.ent.av))) (h.map fun _ => []) a w := by
  obtain ⟨S, β, γ, lam, ω, F⟩ := H
  obtain ⟨S2, ω2, F2, hf⟩ := F.freeze
  have h1 := hs.ls rfl
  have h2 := hs.lb rfl
  have h3 := hs.unlb rfl
  have h4 := hs.noad rfl
  have h5 := hs.nodr rfl
  have hget : ∀ t, (e.upd d u).get t = if d = some t then u.ent else e.get t := fun t => by rw [get_upd, h1]; rfl
  have hget' : ∀ x t, (e.upd d (.ofV x)).get t = if d = some t then ⟨.val x, none⟩ else e.get t := fun x t => by rw [get_upd]; rfl
  have hal : (e.upd d u).al = e.al := by show u.add ++ dropO e.al u.drop = e.al; rw [h4, h5]; rfl
  have hlb : (e.upd d u).lb = e.lb := by show addO (dropLb e.lb u.unlb) u.lb = e.lb; rw [h2, h3]; rfl
  -- first forget the slot, then tell it anew
  have F3 : FR c N U (e.upd d (.ofV .any)) (h.map fun _ => []) a w S2 β γ lam ω2 := by
    refine F2.weak (fun t => ?_) (fun t g hg => ?_) (fun g z hz => by rw [hal]; exact hz) (fun B n hB => by rw [hlb]; exact hB)
    · rw [hget, hget']
      split
      · rename_i hdt
        exact .inr ⟨rfl, by have h1 := hd t hdt; have h2 := F.tsz.2; exact Nat.lt_of_lt_of_le h1 h2⟩
      · exact .inl rfl
    · rw [hget'] at hg
      rw [hget]
      split at hg
      · cases hg
      · rename_i hdt; rw [if_neg hdt]; exact hg
  cases d with
  | none => exact ⟨S2, β, γ, lam, ω2, F3⟩
  | some s =>
    have hsl := F.slots s (Nat.lt_of_lt_of_le (hd s rfl) F.tsz.2)
    rw [hget, if_pos rfl] at hsl
    generalize hv0 : a.tmps.getD s undef = v0 at hsl
    have hvr : VR S β u.ent.av v0 := by
      unfold Ent.av
      cases hv : u.ent.v with
      | val x => rw [hv] at hsl; exact hsl
      | loc B off => simp [VR]
    have F4 := F3.setV (d := some s) hd (hf _ _ hvr)
    refine ⟨S2, β, γ, lam, ω2, (F4.weak (e2 := e.upd (some s) (.ofV (frz 6 h u.ent.av))) (fun t => .inl ?_) (fun t g hg => ?_) (fun g z hz => hz) (fun B n hB => hB)).acts ?_⟩
    · rw [hget', get_upd]
      split
      · rfl
      · rename_i hdt
        show (e.get t).v = (lookE ((s, ⟨.val .any, none⟩) :: e.sl) t).v
        rw [lookE_cons, if_neg (fun hh => hdt (by rw [hh]))]
        rfl
    · rw [hget'] at hg
      rw [get_upd]
      split at hg
      · cases hg
      · rename_i hdt
        rw [if_neg hdt]
        show (lookE ((s, ⟨.val .any, none⟩) :: e.sl) t).g = some g
        rw [lookE_cons, if_neg (fun hh => hdt (by rw [hh]))]
        exact hg
    · have hlt : s < a.tmps.size := Nat.lt_of_lt_of_le (hd s rfl) F.tsz.1
      simp only [Act.put]
      rw [← hv0, Array.getD_eq_getD_getElem?, Array.getElem?_eq_getElem hlt]
      apply Array.ext_getElem?
      intro i
      rw [Array.getElem?_setIfInBounds]
      split
      · rename_i hi
        subst hi
        rw [Array.getElem?_eq_getElem hlt]
        rfl
      · rfl
end Go.Av

/- The pure part of the operations on maps is right. Condition: the table of types is the program's. -/
namespace Go.Av
section
variable {P : Program} {T : TT} {w : World} {S : Stab} {β : List Blk}
theorem forIn_ok {α : Type} {g : α → PUnit → Sem (ForInStep PUnit)} : ∀ (l : List α), (∀ x ∈ l, (g x ⟨⟩).run P w = .ok (.yield ⟨⟩) w) → (forIn l PUnit.unit g).run P w = .ok ⟨⟩ w
  | [], _ => by simp
  | x :: l, h => by
    rw [List.forIn_cons]
    simp only [Sem.run_bind, h x (by simp), Result.andThen_ok]
    exact forIn_ok l fun y hy => h y (by simp [hy])
theorem checkKey_ok (hT : TOK P T) : (d n : Nat) → d ≤ n → (t : TypeId) → (x : AV) → (v : Value) → (em : Bool) → ckV T d t x = true → VR S β x v → (Instr.checkKey em n t v).run P w = .ok () w
  | 0, _, _, t, x, v, em, h, _ => by simp [ckV] at h
  | d + 1, 0, hn, _, _, _, _, _, _ => by omega
  | d + 1, n + 1, hn, t, x, v, em, h, hx => by
    unfold ckV at h
    cases ht : T t with
    | none => rw [ht] at h; cases h
    | some ti =>
      rw [ht] at h
      simp only at h
      obtain ⟨i, dd, z, hi, hd, _, _, hsz, _, hk, hag, hof, _⟩ := (hT.get ht).ex
      unfold Instr.checkKey
      simp only [Sem.run_bind, run_underlying hd, Result.andThen_ok]
      split at h
      case h_1 hkk => cases dd <;> simp only [kindOf, hkk, reduceCtorEq] at hk; simp
      case h_2 hkk => cases dd <;> simp only [kindOf, hkk, reduceCtorEq] at hk; simp
      case h_3 hkk => cases dd <;> simp only [kindOf, hkk, reduceCtorEq] at hk; simp
      case h_4 hkk => cases dd <;> simp only [kindOf, hkk, reduceCtorEq] at hk; simp
      case h_5 cs hkk =>
        obtain ⟨fs, rfl⟩ : ∃ fs, dd = .struct fs := by cases dd <;> simp only [kindOf, hkk, reduceCtorEq] at hk; exact ⟨_, rfl⟩
        simp only [VR] at hx
        obtain ⟨vs, rfl, hvs⟩ := hx
        simp only
        rw [← hof, List.all_eq_true] at h
        have hall : ∀ f ∈ fs.toList, ((if f.name ≠ "_" then (do
              let y ← part f.type vs.toArray f.offset
              Instr.checkKey em n f.type y
              pure (ForInStep.yield PUnit.unit)) else pure (ForInStep.yield PUnit.unit)) : Sem (ForInStep PUnit)).run P w = .ok (.yield ⟨⟩) w := by
          intro f hf
          have := h (f.offset, f.type, decide (f.name ≠ "_")) (by simp only [offsOf, List.mem_map]; exact ⟨f, hf, rfl⟩)
          simp only at this
          split
          · cases htf : T f.type with
            | none => rw [htf] at this; cases this
            | some fi =>
              rw [htf] at this
              simp only at this
              cases hp : partA fi cs f.offset with
              | none => rw [hp] at this; cases this
              | some y =>
                rw [hp] at this
                obtain ⟨u, hu, hur⟩ := part_ok (P := P) (w := w) (S := S) (β := β) hT htf hvs hp
                simp only [Sem.run_bind, hu, Result.andThen_ok]
                rw [checkKey_ok hT d n (by omega) f.type y u em this hur]
                simp
          · simp
        have := forIn_ok (P := P) (w := w) (g := fun (f : Field) (_ : PUnit) => (if f.name ≠ "_" then (do
              let y ← part f.type vs.toArray f.offset
              Instr.checkKey em n f.type y
              pure (ForInStep.yield PUnit.unit)) else pure (ForInStep.yield PUnit.unit) : Sem (ForInStep PUnit))) fs.toList hall
        simp only [Array.forIn_toList] at this
        simp only [Sem.run_bind, this, Result.andThen_ok, Sem.run_pure]
      · cases h
theorem sameNow_eqA (w : World) (hT : TOK P T) {d : Nat} {t : Nat} {dd : TypeDesc} (hd : P.underlying t = some dd) {x y : AV} {vx vy : Value} {b b' : Bool} (h : eqA T (d + 1) t x y = some b) (hx : VR S β x vx) (hy : VR S β y vy) (hs : Instr.sameNow dd vx vy = some b') : b' = b := by
  have h0 := eqA_ok (P := P) (w := w) hT (d + 1) (d + 1) (Nat.le_refl _) t x y vx vy b h hx hy
  unfold Instr.sameNow at hs
  split at hs
  · split at hs
    · rename_i hkk
      simp only [Option.some.injEq] at hs
      subst hs
      simp [Op.equalIn, run_underlying hd, hkk] at h0
      exact h0
    · cases hs
  · simp only [Option.some.injEq] at hs
    subst hs
    simp [Op.equalIn, run_underlying hd] at h0
    exact h0
  · simp only [Option.some.injEq] at hs
    subst hs
    simp [Op.equalIn, run_underlying hd] at h0
    exact h0
  · cases hs
def FoundR (S : Stab) (β : List Blk) (ents : List MapEntry) (i0 : Nat) : Option (Nat × AV × AV) → Option (Nat × Value) → Prop
  | none, r => r = none
  | some (i, k, v), r => ∃ u x, r = some (i, u) ∧ i0 ≤ i ∧ ents[i - i0]? = some x ∧ VR S β k x.key ∧ VR S β v x.val ∧ u = x.val
theorem EntsR.cons {e : AV} {es : List AV} {ents : List MapEntry} (h : EntsR S β (e :: es) ents) : ∃ k v x ents', e = .tup [k, v] ∧ ents = x :: ents' ∧ VR S β k x.key ∧ VR S β v x.val ∧ EntsR S β es ents' := by
  obtain ⟨h1, h2⟩ := h
  cases ents with
  | nil => simp at h1
  | cons x ents' =>
    obtain ⟨k, v, g1, g2, g3⟩ := h2 0 e x rfl rfl
    exact ⟨k, v, x, ents', g1, rfl, g2, g3, by simpa using h1, fun i a b ha hb => h2 (i + 1) a b (by simpa using ha) (by simpa using hb)⟩
theorem findA_ok (hT : TOK P T) {kt : Nat} {dd : TypeDesc} (hd : P.underlying kt = some dd) {k : AV} {vk : Value} (hk : VR S β k vk) : ∀ (es : List AV) (ents : List MapEntry) (i : Nat) (r : Option (Nat × AV × AV)), findA T kt k es i = some r → EntsR S β es ents →
    ∃ r', FoundR S β ents i r r' ∧ (∀ r2, Instr.findNow dd vk ents i = some r2 → r2 = r') ∧ (Instr.findAsking kt vk ents i).run P w = .ok r' w
  | [], ents, i, r, h, he => by
    have : ents = [] := by simpa using he.1.symm
    subst this
    simp only [findA, Option.some.injEq] at h
    subst h
    exact ⟨none, rfl, fun r2 h2 => by simp [Instr.findNow] at h2; exact h2.symm, by simp [Instr.findAsking]⟩
  | e :: es, ents, i, r, h, he => by
    obtain ⟨k', v, x, ents', rfl, rfl, hk', hv, he'⟩ := he.cons
    simp only [findA] at h
    cases hq : eqA T 20 kt k k' with
    | none => rw [hq] at h; cases h
    | some b =>
      have heq := eqA_ok (P := P) (w := w) hT 20 Op.maxDepth (by decide) kt k k' vk x.key b hq hk hk'
      have hsn := fun b' => sameNow_eqA (P := P) (b' := b') w hT hd hq hk hk'
      rw [hq] at h
      cases b with
      | true =>
        simp only [Option.some.injEq] at h
        subst h
        refine ⟨some (i, x.val), ⟨x.val, x, rfl, Nat.le_refl _, by simp, hk', hv, rfl⟩, fun r2 h2 => ?_, ?_⟩
        · unfold Instr.findNow at h2
          split at h2
          · simpa using h2.symm
          · rename_i hs; have := hsn false hs; cases this
          · cases h2
        · unfold Instr.findAsking
          simp [Op.equal, heq]
      | false =>
        simp only at h
        obtain ⟨r', h1, h2, h3⟩ := findA_ok hT hd hk es ents' (i + 1) r h he'
        refine ⟨r', ?_, fun r2 hr2 => ?_, ?_⟩
        · cases r with
          | none => exact h1
          | some q =>
            obtain ⟨j, k2, v2⟩ := q
            obtain ⟨u, y, g1, g2, g3, g4⟩ := h1
            refine ⟨u, y, g1, by omega, ?_, g4⟩
            rw [show j - i = (j - (i + 1)) + 1 by omega]
            simpa using g3
        · unfold Instr.findNow at hr2
          split at hr2
          · rename_i hs; have := hsn true hs; cases this
          · exact h2 r2 hr2
          · cases hr2
        · unfold Instr.findAsking
          simp only [Op.equal, Sem.run_bind, heq, Result.andThen_ok, Bool.false_eq_true, if_false]
          exact h3
theorem findKey_ok (hT : TOK P T) {kt : Nat} {dd : TypeDesc} (hd : P.underlying kt = some dd) {k : AV} {vk : Value} (hk : VR S β k vk) {es : List AV} {ents : List MapEntry} {r : Option (Nat × AV × AV)} (h : findA T kt k es 0 = some r) (he : EntsR S β es ents) :
    ∃ r', FoundR S β ents 0 r r' ∧ (Instr.findKey kt vk ents).run P w = .ok r' w := by
  obtain ⟨r', h1, h2, h3⟩ := findA_ok (P := P) (w := w) hT hd hk es ents 0 r h he
  refine ⟨r', h1, ?_⟩
  unfold Instr.findKey
  simp only [Sem.run_bind, run_underlying hd, Result.andThen_ok]
  cases hn : Instr.findNow dd vk ents 0 with
  | none => exact h3
  | some r2 =>
    have := h2 r2 hn
    subst this
    simp
theorem same1_ok {x y : AV} (h : same1 x y = true) {v u : Value} (hx : VR S β x v) (hy : VR S β y u) : v = u ∧ x = y ∧ ∀ n, Instr.sameBits n v u = true := by
  unfold same1 at h
  split at h
  · simp only [VR] at hx hy
    have := eq_of_beq h
    subst this hx hy
    exact ⟨rfl, rfl, fun n => by cases n <;> simp [Instr.sameBits]⟩
  · simp only [VR] at hx hy
    simp only [Bool.and_eq_true, decide_eq_true_eq, beq_iff_eq] at h
    obtain ⟨rfl, rfl⟩ := h
    subst hx hy
    exact ⟨rfl, rfl, fun n => by cases n <;> simp [Instr.sameBits]⟩
  · simp only [VR] at hx hy
    have := eq_of_beq h
    subst this
    obtain ⟨x, rfl, hx⟩ := hx
    obtain ⟨y, rfl, hy⟩ := hy
    have : x = y := data_eq_iff.1 (hx.trans hy.symm)
    subst this
    exact ⟨rfl, rfl, fun n => by cases n <;> simp [Instr.sameBits, beq_toListBytes]⟩
  · cases h
theorem same1s_ok : ∀ {xs ys : List AV}, same1s xs ys = true → ∀ {vs us : List Value}, VRs S β xs vs → VRs S β ys us → vs = us ∧ xs = ys ∧ ∀ n, (vs.zip us).all (fun (x, y) => Instr.sameBits n x y) = true
  | [], [], _, vs, us, hx, hy => by
    simp only [VRs] at hx hy
    subst hx hy
    exact ⟨rfl, rfl, fun n => rfl⟩
  | x :: xs, y :: ys, h, vs, us, hx, hy => by
    simp only [same1s, Bool.and_eq_true] at h
    simp only [VRs] at hx hy
    obtain ⟨v, vs, rfl, h1, h2⟩ := hx
    obtain ⟨u, us, rfl, g1, g2⟩ := hy
    obtain ⟨rfl, rfl, k1⟩ := same1_ok h.1 h1 g1
    obtain ⟨rfl, rfl, k2⟩ := same1s_ok h.2 h2 g2
    exact ⟨rfl, rfl, fun n => by simp only [List.zip_cons_cons, List.all_cons, k1, Bool.true_and]; exact k2 n⟩
  | [], _ :: _, h, _, _, _, _ => by cases h
  | _ :: _, [], h, _, _, _, _ => by cases h
theorem sameA_ok {x y : AV} (h : sameA x y = true) {v u : Value} (hx : VR S β x v) (hy : VR S β y u) : v = u ∧ x = y ∧ ∀ n, Instr.sameBits (n + 1) v u = true := by
  unfold sameA at h
  split at h
  · simp only [VR] at hx hy
    obtain ⟨vs, rfl, h1⟩ := hx
    obtain ⟨us, rfl, h2⟩ := hy
    obtain ⟨rfl, rfl, k⟩ := same1s_ok h h1 h2
    exact ⟨rfl, rfl, fun n => by simp only [Instr.sameBits, beq_self_eq_true, Bool.true_and]; exact k n⟩
  · obtain ⟨h1, h2, h3⟩ := same1_ok h hx hy
    exact ⟨h1, h2, fun n => h3 _⟩
theorem mapT_ok (hT : TOK P T) {t kt et : Nat} (h : mapTy T t = some (kt, et)) : P.underlying t = some (.map kt et) := by
  unfold mapTy at h
  cases ht : T t with
  | none => rw [ht] at h; cases h
  | some ti =>
    rw [ht] at h
    obtain ⟨i, dd, z, hi, hd, _, _, hsz, _, hk, _⟩ := (hT.get ht).ex
    simp only at h
    split at h
    · rename_i hkk
      simp only [Option.some.injEq, Prod.mk.injEq] at h
      obtain ⟨rfl, rfl⟩ := h
      cases dd <;> simp only [kindOf, hkk, reduceCtorEq, TK.map.injEq] at hk
      obtain ⟨rfl, rfl⟩ := hk
      exact hd
    · cases h
theorem ckV_under (hT : TOK P T) {d t : Nat} {x : AV} (h : ckV T d t x = true) : ∃ dd, P.underlying t = some dd := by
  cases d with
  | zero => simp [ckV] at h
  | succ d =>
    unfold ckV at h
    cases ht : T t with
    | none => rw [ht] at h; cases h
    | some ti =>
      obtain ⟨i, dd, z, hi, hd, _⟩ := (hT.get ht).ex
      exact ⟨dd, hd⟩
theorem zero_run (hT : TOK P T) {t : Nat} {ti : TI} (ht : T t = some ti) : ∃ z, (zeroValue t).run P w = .ok z w ∧ VR S β (zeroEl ti) z := by
  obtain ⟨i, d, z, hi, hd, hz, _⟩ := (hT.get ht).ex
  exact ⟨z, by simp [zeroValue, typeInfo, hi, hz], (VR_zeroEl hT ht hi hz).1⟩
theorem run_getM {r clock : Nat} {es : Array MapEntry} (hb : w.heap[r]? = some (.map es clock)) : (getObj r).run P w = .ok (.map es clock) w := by
  simp [getObj, Sem.run, hb]
def setBlk (w : World) (b : Nat) (o : Obj) : World := { w with heap := w.heap.setIfInBounds b o }
theorem run_setM {r clock : Nat} {es : Array MapEntry} (o : Obj) (hb : w.heap[r]? = some (.map es clock)) : (setObj r o).run P w = .ok () (setBlk w r o) := by
  simp [setObj, Sem.run, hb, setBlk]
theorem look_ok (hT : TOK P T) {t : Nat} {es : List AV} {k r : AV} {ok : Bool} (h : lookA T t es k ok = some r) {vm vk : Value} (hk : VR S β k vk) {ents : Array MapEntry} (he : EntsR S β es ents.toList)
    (hm : (vm = .map none ∧ ents = #[]) ∨ ∃ b clock, vm = .map (some b) ∧ w.heap[b]? = some (.map ents clock)) : Pur P w S β (Instr.lookup t vm vk ok) r := by
  unfold lookA at h
  cases hmt : mapTy T t with
  | none => rw [hmt] at h; cases h
  | some q =>
    obtain ⟨kt, et⟩ := q
    rw [hmt] at h
    simp only at h
    cases hck : ckV T 20 kt k with
    | false => rw [hck] at h; cases h
    | true =>
      rw [hck] at h
      simp only [cond_true] at h
      cases hte : T et with
      | none => rw [hte] at h; cases h
      | some ei =>
        rw [hte] at h
        simp only at h
        obtain ⟨dd, hd⟩ := ckV_under hT hck
        have hu := mapT_ok hT hmt
        have hc := fun em => checkKey_ok (P := P) (w := w) hT 20 10000 (by decide) kt k vk em hck hk
        have hgo : ∀ (r : AV) (r' : Option (Nat × Value)), (Instr.findKey kt vk ents.toList).run P w = .ok r' w →
            (∃ v b, (r' = none → b = false ∧ (zeroValue et).run P w = .ok v w) ∧ (∀ q, r' = some q → b = true ∧ v = q.2) ∧ VR S β r (if ok then .tuple #[v, .bool b] else v)) → Pur P w S β (Instr.lookup t vm vk ok) r := by
          rintro r r' hf ⟨v, b0, h1, h2, h3⟩
          refine ⟨_, ?_, h3⟩
          unfold Instr.lookup
          rcases hm with ⟨rfl, rfl⟩ | ⟨b, clock, rfl, hb⟩
          · simp only [Sem.run_bind, run_underlying hu, Result.andThen_ok, Sem.run_pure, hc, hf]
            cases r' with
            | none => obtain ⟨rfl, h1⟩ := h1 rfl; simp only [Sem.run_bind, h1, Result.andThen_ok, Sem.run_pure]
            | some q => obtain ⟨rfl, rfl⟩ := h2 q rfl; simp only [Sem.run_bind, Result.andThen_ok, Sem.run_pure]
          · simp only [Sem.run_bind, run_underlying hu, Result.andThen_ok, run_getM hb, Sem.run_pure, hc, hf]
            cases r' with
            | none => obtain ⟨rfl, h1⟩ := h1 rfl; simp only [Sem.run_bind, h1, Result.andThen_ok, Sem.run_pure]
            | some q => obtain ⟨rfl, rfl⟩ := h2 q rfl; simp only [Sem.run_bind, Result.andThen_ok, Sem.run_pure]
        cases hf : findA T kt k es 0 with
        | none => rw [hf] at h; cases h
        | some q =>
          rw [hf] at h
          obtain ⟨r', h1, h2⟩ := findKey_ok (P := P) (w := w) hT hd hk hf he
          cases q with
          | none =>
            simp only [Option.some.injEq] at h
            subst h
            simp only [FoundR] at h1
            subst h1
            obtain ⟨z, hz, hzr⟩ := zero_run (w := w) (S := S) (β := β) hT hte
            refine hgo _ none h2 ⟨z, false, fun _ => ⟨rfl, hz⟩, (fun _ h => by cases h), ?_⟩
            cases ok with
            | true => simp only [cond_true, if_true, VR]; exact ⟨[z, .bool false], rfl, by simp only [VRs, VR]; exact ⟨_, _, rfl, hzr, _, _, rfl, rfl, rfl⟩⟩
            | false => simpa using hzr
          | some q =>
            obtain ⟨i, k', v⟩ := q
            simp only [Option.some.injEq] at h
            subst h
            obtain ⟨u, x, rfl, _, g2, g3, g4, rfl⟩ := h1
            refine hgo _ _ h2 ⟨x.val, true, (fun h => by cases h), (fun q h => by cases h; exact ⟨rfl, rfl⟩), ?_⟩
            cases ok with
            | true => simp only [cond_true, if_true, VR]; exact ⟨[x.val, .bool true], rfl, by simp only [VRs, VR]; exact ⟨_, _, rfl, g4, _, _, rfl, rfl, rfl⟩⟩
            | false => simpa using g4
theorem put_ok (hT : TOK P T) {t kt et : Nat} (hmt : mapTy T t = some (kt, et)) {es es' : List AV} {k v : AV} (hck : ckV T 20 kt k = true) (h : putA T kt es k v = some es') {vk vv : Value} (hk : VR S β k vk) (hv : VR S β v vv) {ents : Array MapEntry} {clock b : Nat}
    (he : EntsR S β es ents.toList) (hst : Stamps ents.toList clock) (hb : w.heap[b]? = some (.map ents clock)) :
    ∃ ents' clock', (Instr.mapUpdate t (.map (some b)) vk vv).run P w = .ok () (setBlk w b (.map ents' clock')) ∧ EntsR S β es' ents'.toList ∧ Stamps ents'.toList clock' ∧
      es.length ≤ es'.length ∧ (es'.length = es.length → ents'.toList.map (·.born) = ents.toList.map (·.born)) := by
  obtain ⟨dd, hd⟩ := ckV_under hT hck
  have hu := mapT_ok hT hmt
  have hc := checkKey_ok (P := P) (w := w) hT 20 10000 (by decide) kt k vk false hck hk
  unfold putA at h
  cases hf : findA T kt k es 0 with
  | none => rw [hf] at h; cases h
  | some q =>
    rw [hf] at h
    obtain ⟨r', h1, h2⟩ := findKey_ok (P := P) (w := w) hT hd hk hf he
    cases q with
    | none =>
      simp only [Option.some.injEq] at h
      subst h
      simp only [FoundR] at h1
      subst h1
      refine ⟨ents.push { key := vk, val := vv, born := clock }, clock + 1, ?_, ?_, ?_, by simp, by simp⟩
      · unfold Instr.mapUpdate
        simp only [Sem.run_bind, run_underlying hu, Result.andThen_ok, run_getM hb, hc, h2, run_setM _ hb]
      · refine ⟨by simpa using he.1, fun i a x ha hx => ?_⟩
        have hl := he.1
        simp only [Array.toList_push] at hx
        rw [List.getElem?_append] at ha hx
        split at ha
        · rename_i hlt
          rw [if_pos (by omega)] at hx
          exact he.2 i a x ha hx
        · rename_i hlt
          rw [if_neg (by omega)] at hx
          rw [← hl] at hx
          cases hi : i - es.length with
          | zero =>
            rw [hi] at ha hx
            simp at ha hx
            subst ha hx
            exact ⟨k, v, rfl, hk, hv⟩
          | succ n => rw [hi] at ha; simp at ha
      · refine ⟨fun x hx => ?_, ?_⟩
        · simp only [Array.toList_push, List.mem_append, List.mem_singleton] at hx
          rcases hx with hx | rfl
          · exact Nat.lt_succ_of_lt (hst.1 x hx)
          · exact Nat.lt_succ_self _
        · simp only [Array.toList_push]
          rw [List.pairwise_append]
          refine ⟨hst.2, by simp, fun x hx y hy => ?_⟩
          simp only [List.mem_singleton] at hy
          subst hy
          exact Nat.ne_of_lt (hst.1 x hx)
    | some q =>
      obtain ⟨i, k', v0⟩ := q
      simp only at h
      cases hs : sameA k' k with
      | false => rw [hs] at h; cases h
      | true =>
        rw [hs] at h
        simp only [cond_true, Option.some.injEq] at h
        subst h
        obtain ⟨u, x, rfl, _, g2, g3, g4, rfl⟩ := h1
        rw [Nat.sub_zero] at g2
        obtain ⟨hkk, _, hbits⟩ := sameA_ok hs g3 hk
        have g2' : ents[i]? = some x := by simpa using g2
        have hmod : (ents.modify i fun e => { e with key := vk, val := vv }).toList = ents.toList.set i { x with key := vk, val := vv } := by
          apply List.ext_getElem?
          intro j
          rw [Array.getElem?_toList, Array.getElem?_modify, List.getElem?_set]
          by_cases hij : i = j
          · subst hij
            obtain ⟨hlt, hgx⟩ := Array.getElem?_eq_some_iff.1 g2'
            simp [hgx, hlt]
          · simp [hij]
        have hmap : (ents.toList.set i { x with key := vk, val := vv }).map (·.born) = ents.toList.map (·.born) := by
          rw [List.map_set]
          apply List.ext_getElem?
          intro j
          rw [List.getElem?_set]
          by_cases hij : i = j
          · subst hij
            obtain ⟨hlt, hgx⟩ := Array.getElem?_eq_some_iff.1 g2'
            simp [hlt, hgx]
          · simp [hij]
        refine ⟨ents.modify i fun e => { e with key := vk, val := vv }, clock, ?_, ?_, ?_, by simp, fun _ => ?_⟩
        · unfold Instr.mapUpdate
          simp only [Sem.run_bind, run_underlying hu, Result.andThen_ok, run_getM hb, hc, h2]
          simp only [g2', Option.map_some, Option.getD_some, Instr.keyThatStays, hbits 9999, if_true, Sem.run_pure, Result.andThen_ok, run_setM _ hb]
        · rw [hmod]
          refine ⟨by simpa using he.1, fun j a y ha hy => ?_⟩
          rw [List.getElem?_set] at ha hy
          by_cases hij : i = j
          · subst hij
            simp only [if_true] at ha hy
            split at ha
            · split at hy
              · simp only [Option.some.injEq] at ha hy
                subst ha hy
                exact ⟨k, v, rfl, hk, hv⟩
              · cases hy
            · cases ha
          · simp only [hij, if_false] at ha hy
            exact he.2 j a y ha hy
        · rw [hmod]
          have hxm : x ∈ ents.toList := List.mem_of_getElem? g2
          refine ⟨fun y hy => ?_, ?_⟩
          · have : y.born ∈ (ents.toList.set i { x with key := vk, val := vv }).map (·.born) := List.mem_map_of_mem hy
            rw [hmap, List.mem_map] at this
            obtain ⟨z, hz, hzb⟩ := this
            rw [← hzb]
            exact hst.1 z hz
          · have h3 : (ents.toList.map (·.born)).Pairwise (· ≠ ·) := List.pairwise_map.2 hst.2
            rw [← hmap] at h3
            exact List.pairwise_map.1 h3
        · rw [hmod, hmap]
end
end Go.Av
