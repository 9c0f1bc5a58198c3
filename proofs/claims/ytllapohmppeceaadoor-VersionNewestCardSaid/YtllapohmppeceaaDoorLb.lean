/- The abstract evaluator of the model, part 2: its soundness holds for every program whose table of types is the evaluator's. No further condition. -/
import Derived.Test.YtllapohmppeceaaDoorLa

/- Slices, built values: the abstract evaluator's operations are right. No condition. -/
namespace Go.Av

section
variable {P : Program} {T : TT} {w : World} {S : Stab} {β : List Blk}

theorem sb_ok {x : AV} {v : Value} {dflt most n y : Nat} (c : BoundsCode) (hy : most ≤ y) (h : boundA (some x) dflt most = some n) (hx : VR S β x v) : (Instr.sliceBound v y c).run P w = .ok n w ∧ n ≤ most := by
  unfold boundA at h
  split at h
  · rename_i hq; cases hq
  · rename_i k m hq; cases hq
    simp only [VR] at hx; subst hx
    split at h
    · rename_i hcc
      simp only [Option.some.injEq] at h; subst h
      refine ⟨?_, by omega⟩
      have : 0 ≤ m ∧ m ≤ (y : Int) := by omega
      simp only [Instr.sliceBound, asIntOf, Sem.run_bind, Sem.run_pure, Result.andThen_ok, this, and_self, if_true]
    · simp at h
  · simp at h

/-- What an optional operand is, beside its abstract value. -/
def OptR (S : Stab) (β : List Blk) : Option AV → Option Value → Prop
  | none, v => v = none
  | some x, v => ∃ y, v = some y ∧ VR S β x y

/-- Bounds of a slice expression without a third index. -/
theorem bounds2_ok {isSlice : Bool} {len cap : Nat} {lo hi : Option AV} {vlo vhi : Option Value} {h l : Nat}
    (hlo : OptR S β lo vlo) (hhi : OptR S β hi vhi) (hc : len ≤ cap) (hh : boundA hi len len = some h) (hl : boundA lo 0 h = some l) :
    (Instr.sliceBounds isSlice len cap vlo vhi none).run P w = .ok (l, h, cap) w ∧ l ≤ h ∧ h ≤ len := by
  cases hi with
  | none =>
    simp only [OptR] at hhi; subst hhi
    simp only [boundA, Option.some.injEq] at hh; subst hh
    cases lo with
    | none =>
      simp only [OptR] at hlo; subst hlo
      simp only [boundA, Option.some.injEq] at hl; subst hl
      exact ⟨by simp [Instr.sliceBounds], by omega, by omega⟩
    | some y =>
      obtain ⟨u, rfl, hu⟩ := hlo
      have h1 := sb_ok (P := P) (w := w) .sliceB (Nat.le_refl _) hl hu
      exact ⟨by simp [Instr.sliceBounds, h1.1], h1.2, by omega⟩
  | some x =>
    obtain ⟨v, rfl, hv⟩ := hhi
    have h2 := fun c => sb_ok (P := P) (w := w) c hc hh hv
    cases lo with
    | none =>
      simp only [OptR] at hlo; subst hlo
      simp only [boundA, Option.some.injEq] at hl; subst hl
      exact ⟨by simp [Instr.sliceBounds, h2], by omega, (h2 .index).2⟩
    | some y =>
      obtain ⟨u, rfl, hu⟩ := hlo
      have h1 := sb_ok (P := P) (w := w) .sliceB (Nat.le_refl _) hl hu
      exact ⟨by simp [Instr.sliceBounds, h2, h1.1], h1.2, (h2 .index).2⟩

/-- Bounds with a third index that is the second one. -/
theorem bounds3_ok {len cap : Nat} {lo : Option AV} {xh xm : AV} {vlo : Option Value} {vh vm : Value} {h l : Nat}
    (hlo : OptR S β lo vlo) (hh : VR S β xh vh) (hm : VR S β xm vm) (hc : len ≤ cap) (h1 : boundA (some xh) len len = some h) (h2 : boundA (some xm) 0 len = some h) (hl : boundA lo 0 h = some l) :
    (Instr.sliceBounds true len cap vlo (some vh) (some vm)).run P w = .ok (l, h, h) w ∧ l ≤ h ∧ h ≤ len := by
  have g2 := fun c => sb_ok (P := P) (w := w) c hc h2 hm
  have g1 : (Instr.sliceBound vh h .slice3B).run P w = .ok h w := by
    unfold boundA at h1
    split at h1
    · rename_i hq; cases hq
    · rename_i k m hq; cases hq
      simp only [VR] at hh; subst hh
      split at h1
      · rename_i hcc
        simp only [Option.some.injEq] at h1; subst h1
        have : 0 ≤ m ∧ m ≤ ((m.toNat : Nat) : Int) := by omega
        simp only [Instr.sliceBound, asIntOf, Sem.run_bind, Sem.run_pure, Result.andThen_ok, this, and_self, if_true]
      · simp at h1
    · simp at h1
  cases lo with
  | none =>
    simp only [OptR] at hlo; subst hlo
    simp only [boundA, Option.some.injEq] at hl; subst hl
    exact ⟨by simp [Instr.sliceBounds, g2, g1], by omega, (g2 .index).2⟩
  | some y =>
    obtain ⟨u, rfl, hu⟩ := hlo
    have h1 := sb_ok (P := P) (w := w) .slice3C (Nat.le_refl _) hl hu
    exact ⟨by simp [Instr.sliceBounds, g2, g1, h1.1], h1.2, (g2 .index).2⟩

theorem VR.sl_part {es : List AV} {a : Option Addr} {cap l h esz : Nat} (hx : VR S β (.sl es) (.slice a es.length cap)) (hlh : l ≤ h) (hh : h ≤ es.length) (hs : ∀ q, a = some q → h ≠ l → l ≠ 0 → ∀ sz, ElsAt S β es q.block q.off sz → sz = esz)
    (m : Nat) (hm : h ≤ m) (hmc : m ≤ cap) :
    VR S β (.sl ((es.take h).drop l)) (.slice (if m = l then a else a.map (·.add (l * esz))) (h - l) (m - l)) := by
  simp only [VR] at hx ⊢
  obtain ⟨a', cap', he, hc, hnone, hsome⟩ := hx
  simp only [Value.slice.injEq] at he
  obtain ⟨rfl, _, rfl⟩ := he
  have hlen : ((es.take h).drop l).length = h - l := by simp; omega
  refine ⟨_, m - l, by rw [hlen], by rw [hlen]; omega, ?_, ?_⟩
  · intro hn
    split at hn
    · omega
    · simp at hn
      subst hn
      have := hnone rfl
      omega
  · intro q hq
    split at hq
    · rename_i hml
      have : h = l := by omega
      subst this
      subst hq
      obtain ⟨h1, _⟩ := hsome q rfl
      refine ⟨h1, 1, ?_⟩
      have : (es.take h).drop h = [] := by apply List.eq_nil_of_length_eq_zero; simp
      rw [this]
      simp [ElsAt]
    · rw [Option.map_eq_some_iff] at hq
      obtain ⟨q0, rfl, rfl⟩ := hq
      obtain ⟨h1, sz, h2⟩ := hsome q0 rfl
      have hq0 : q0 = ⟨q0.block, q0.off, none⟩ := by cases q0; simp_all
      refine ⟨by rw [hq0, addr_add], ?_⟩
      by_cases hhl : h = l
      · subst hhl
        have : (es.take h).drop h = [] := by apply List.eq_nil_of_length_eq_zero; simp
        exact ⟨1, by rw [this]; simp [ElsAt]⟩
      · by_cases hl0 : l = 0
        · subst hl0
          refine ⟨sz, ?_⟩
          rw [hq0, addr_add]
          simpa using h2.take h
        · have := hs q0 rfl hhl hl0 sz h2
          subst this
          refine ⟨sz, ?_⟩
          rw [hq0, addr_add]
          exact (h2.take h).drop l

theorem extract_toList (y : ByteArray) (l h : Nat) : (y.extract l h).data.toList = (y.data.toList.take h).drop l := by
  rw [ByteArray.data_extract, Array.toList_extract, List.extract_eq_take_drop, List.drop_take]

theorem slice_ok (hT : TOK P T) {t : Nat} {x r : AV} {lo hi mx : Option AV} {vx : Value} {vlo vhi vmx : Option Value} (h : sliceA T t x lo hi mx = some r) (hx : VR S β x vx)
    (hlo : OptR S β lo vlo) (hhi : OptR S β hi vhi) (hmx : OptR S β mx vmx) :
    ∃ v, (Instr.sliceAt t vx vlo vhi vmx).run P w = .ok v w ∧ VR S β r v ∧ (mx.isSome = true → (∃ a n, v = .slice a n n) ∧ ∃ es, r = .sl es) := by
  unfold sliceA at h
  split at h
  · simp at h
  · rename_i ti ht
    obtain ⟨_, d, _, _, hd, _, _, _, _, hk, _⟩ := (hT.get ht).ex
    split at h
    · -- strings
      rename_i s hkk
      cases d <;> simp only [kindOf, hkk, reduceCtorEq] at hk
      split at h
      · simp at h
      · simp only [OptR] at hmx; subst hmx
        split at h
        · simp at h
        · rename_i hh hhe
          split at h
          · simp at h
          · rename_i l hle
            simp only [Option.some.injEq] at h; subst h
            simp only [VR] at hx
            obtain ⟨y, rfl, hy⟩ := hx
            have hsz : y.size = s.length := by rw [← hy, Array.length_toList]; rfl
            obtain ⟨hb, h1, h2⟩ := bounds2_ok (P := P) (w := w) (isSlice := false) hlo hhi (Nat.le_refl s.length) hhe hle
            refine ⟨.string (y.extract l hh), ?_, ?_, by simp⟩
            · simp only [Instr.sliceAt, Sem.run_bind, run_underlying hd, Result.andThen_ok, Instr.slice, Option.isSome_none, Bool.false_eq_true, if_false, hsz, hb, Sem.run_pure]
            · simp only [VR]
              exact ⟨_, rfl, by rw [extract_toList, hy]⟩
    · -- slices by value
      rename_i e es hkk
      cases d <;> simp only [kindOf, hkk, reduceCtorEq, TK.slice.injEq] at hk
      subst hk
      split at h
      · simp at h
      · rename_i ei hei
        obtain ⟨ii, _, _, hii, _, _, _, hsz, _⟩ := (hT.get hei).ex
        split at h
        · simp at h
        · rename_i hh hhe
          split at h
          · simp at h
          · rename_i l hle
            cases hck : (decide (l = 0) || okSz ei.size es) with
            | false => rw [hck] at h; simp at h
            | true =>
              rw [hck] at h
              simp only [cond_true] at h
              have hx0 := hx
              simp only [VR] at hx
              obtain ⟨a, cap, rfl, hc, hnone, hsome⟩ := hx
              have hstep : ∀ hh l m : Nat, l ≤ hh → hh ≤ es.length → hh ≤ m → m ≤ cap → (decide (l = 0) || okSz ei.size es) = true →
                  VR S β (.sl ((es.take hh).drop l)) (.slice (if m = l then a else a.map (·.add (l * ii.size))) (hh - l) (m - l)) := by
                intro hh l m h1 h2 h3 h4 hck
                rw [Bool.or_eq_true] at hck
                rcases hck with h0 | hok
                · have h0 : l = 0 := by simpa using h0
                  exact VR.sl_part hx0 h1 h2 (fun q _ _ hl0 => absurd h0 hl0) m h3 h4
                · refine VR.sl_part hx0 h1 h2 (fun q hq hne _ sz hel => ?_) m h3 h4
                  have hlt : l < es.length := by omega
                  obtain ⟨v, hv, hvs, _⟩ := hel.get (List.getElem?_eq_getElem hlt)
                  have hsa : sizeA es[l] = some ei.size := by
                    unfold okSz at hok
                    rw [List.all_eq_true] at hok
                    have := hok _ (List.getElem_mem hlt)
                    simp [okEl] at this
                    exact this.1
                  have := (hv.cells hsa).1
                  omega
              cases mx with
              | none =>
                simp only [Option.some.injEq] at h; subst h
                simp only [OptR] at hmx; subst hmx
                obtain ⟨hb, h1, h2⟩ := bounds2_ok (P := P) (w := w) (isSlice := true) hlo hhi hc hhe hle
                refine ⟨_, ?_, hstep hh l cap h1 h2 (by omega) (Nat.le_refl _) hck, by simp⟩
                simp only [Instr.sliceAt, Sem.run_bind, run_underlying hd, Result.andThen_ok, Instr.slice, hb, run_sizeOf hii, Sem.run_pure]
              | some xm =>
                obtain ⟨vm, rfl, hvm⟩ := hmx
                cases hi with
                | none => simp at h
                | some xh =>
                  obtain ⟨vh, rfl, hvh⟩ := hhi
                  simp only at h
                  split at h
                  · rename_i m' hm' _
                    split at h
                    · rename_i hmh
                      subst hmh
                      simp only [Option.some.injEq] at h; subst h
                      obtain ⟨hb, h1, h2⟩ := bounds3_ok (P := P) (w := w) hlo hvh hvm hc hhe ‹_› hle
                      refine ⟨_, ?_, hstep m' l m' h1 h2 (Nat.le_refl _) (by omega) hck, fun _ => ⟨⟨_, _, rfl⟩, _, rfl⟩⟩
                      simp only [Instr.sliceAt, Sem.run_bind, run_underlying hd, Result.andThen_ok, Instr.slice, hb, run_sizeOf hii, Sem.run_pure]
                    · simp at h
                  · simp at h
    · -- slices in the heap
      rename_i e l0 off len sz ag hkk
      cases d <;> simp only [kindOf, hkk, reduceCtorEq, TK.slice.injEq] at hk
      subst hk
      split at h
      · simp at h
      · rename_i ei hei
        obtain ⟨ii, _, _, hii, _, _, _, hsz, _⟩ := (hT.get hei).ex
        split at h
        · simp at h
        · simp only [OptR] at hmx; subst hmx
          split at h
          · simp at h
          · rename_i hh hhe
            split at h
            · simp at h
            · rename_i l hle
              split at h
              · rename_i hcond
                simp only [VR] at hx
                obtain ⟨b, cap, hb, rfl, hcap, hcs⟩ := hx
                obtain ⟨hbd, h1, h2⟩ := bounds2_ok (P := P) (w := w) (isSlice := true) hlo hhi hcap hhe hle
                split at h
                · rename_i hlt
                  simp only [Option.some.injEq] at h; subst h
                  have hml : cap ≠ l := by omega
                  refine ⟨.slice (some ⟨b.1, off + l * sz, none⟩) (hh - l) (cap - l), ?_, ?_, by simp⟩
                  · simp only [Instr.sliceAt, Sem.run_bind, run_underlying hd, Result.andThen_ok, Instr.slice, hbd, run_sizeOf hii, Sem.run_pure, hml, if_false, Option.map_some, addr_add, hsz, hcond]
                  · simp only [VR]
                    refine ⟨b, cap - l, hb, rfl, by omega, ?_⟩
                    rw [Nat.sub_mul]
                    have : l * sz ≤ cap * sz := Nat.mul_le_mul_right _ (by omega)
                    omega
                · rename_i hlt
                  simp only [Option.some.injEq] at h; subst h
                  obtain rfl : l = hh := by omega
                  by_cases hml : cap = l
                  · refine ⟨.slice (some ⟨b.1, off, none⟩) (l - l) (cap - l), ?_, ?_, by simp⟩
                    · rw [hml] at hbd
                      simp only [Instr.sliceAt, Sem.run_bind, run_underlying hd, Result.andThen_ok, Instr.slice, hml, hbd, run_sizeOf hii, Sem.run_pure, if_true]
                    · simp only [VR, ElsAt]
                      rw [Nat.sub_self]
                      exact ⟨_, _, rfl, Nat.zero_le _, (fun h => by cases h), fun q hq => by cases hq; exact ⟨rfl, 0, trivial⟩⟩
                  · refine ⟨.slice (some ⟨b.1, off + l * sz, none⟩) (l - l) (cap - l), ?_, ?_, by simp⟩
                    · simp only [Instr.sliceAt, Sem.run_bind, run_underlying hd, Result.andThen_ok, Instr.slice, hbd, run_sizeOf hii, Sem.run_pure, hml, if_false, Option.map_some, addr_add, hsz, hcond]
                    · simp only [VR, ElsAt]
                      rw [Nat.sub_self]
                      exact ⟨_, _, rfl, Nat.zero_le _, (fun h => by cases h), fun q hq => by cases hq; exact ⟨rfl, 0, trivial⟩⟩
              · simp at h
    · simp at h

end
end Go.Av

/- Built values. No condition. -/
namespace Go.Av

section
variable {P : Program} {T : TT} {w : World} {S : Stab} {β : List Blk}

theorem setCells_get (cs xs : List AV) (off k : Nat) (h : off + xs.length ≤ cs.length) :
    (setCells cs off xs)[k]? = if off ≤ k ∧ k < off + xs.length then xs[k - off]? else cs[k]? := by
  unfold setCells
  have htl : (cs.take off).length = off := by simp; omega
  split
  · rename_i hc
    rw [List.append_assoc, List.getElem?_append_right (by omega), htl, List.getElem?_append_left (by omega)]
  · rename_i hc
    by_cases hk : k < off
    · rw [List.append_assoc, List.getElem?_append_left (by omega), List.getElem?_take, if_pos hk]
    · rw [List.getElem?_append_right (by simp; omega), List.getElem?_drop]
      congr 1
      simp
      omega
theorem setCells_length (cs xs : List AV) (off : Nat) (h : off + xs.length ≤ cs.length) : (setCells cs off xs).length = cs.length := by
  simp [setCells]; omega

theorem foldl_set (vs : List Value) : ∀ (k off : Nat) (cells : Array Value),
    ((vs.zipIdx k).foldl (fun cs x => cs.setIfInBounds (off + x.2) x.1) cells).size = cells.size ∧
    (off + k + vs.length ≤ cells.size → ∀ i, ((vs.zipIdx k).foldl (fun cs x => cs.setIfInBounds (off + x.2) x.1) cells)[i]? = if off + k ≤ i ∧ i < off + k + vs.length then vs[i - (off + k)]? else cells[i]?) := by
  induction vs with
  | nil => intro k off cells; simp; omega
  | cons v vs ih =>
    intro k off cells
    simp only [List.zipIdx_cons, List.foldl_cons, List.length_cons]
    obtain ⟨h1, h2⟩ := ih (k + 1) off (cells.setIfInBounds (off + k) v)
    refine ⟨by rw [h1]; simp, fun hle i => ?_⟩
    rw [h2 (by simp; omega)]
    by_cases hi : i = off + k
    · subst hi
      rw [if_neg (by omega), if_pos (by omega)]
      simp [Array.getElem?_setIfInBounds]
      omega
    · by_cases hc : off + (k + 1) ≤ i ∧ i < off + (k + 1) + vs.length
      · rw [if_pos hc, if_pos (by omega)]
        rw [show i - (off + k) = (i - (off + (k + 1))) + 1 by omega]
        simp
      · rw [if_neg hc, if_neg (by omega)]
        rw [Array.getElem?_setIfInBounds_ne (by omega)]

theorem VRs.splice {cs xs : List AV} {vs : Array Value} {ws : List Value} {off : Nat} (h : VRs S β cs vs.toList) (g : VRs S β xs ws) (hle : off + xs.length ≤ cs.length) {us : Array Value}
    (hs : us.size = vs.size) (hu : ∀ i, us[i]? = if off ≤ i ∧ i < off + ws.length then ws[i - off]? else vs[i]?) : VRs S β (setCells cs off xs) us.toList := by
  have hl := h.length
  have hl2 := g.length
  refine .of_get (by rw [setCells_length _ _ _ hle]; simpa [hs] using hl) fun i c v hc hv => ?_
  rw [setCells_get _ _ _ _ hle] at hc
  rw [Array.getElem?_toList, hu, hl2] at hv
  split at hc
  · rename_i hcc
    rw [if_pos hcc] at hv
    obtain ⟨v', h1, h2⟩ := g.get hc
    rw [hv] at h1; cases h1; exact h2
  · rename_i hcc
    rw [if_neg hcc] at hv
    obtain ⟨v', h1, h2⟩ := h.get hc
    rw [Array.getElem?_toList, hv] at h1; cases h1; exact h2

/-- Parts of a built value beside their abstract ones. -/
def PartsR (S : Stab) (β : List Blk) : List (Nat × AV) → List (Nat × Value) → Prop
  | [], ps => ps = []
  | (i, a) :: r, ps => ∃ v ps', ps = (i, v) :: ps' ∧ VR S β a v ∧ PartsR S β r ps'

theorem fill_ok {pA : Nat → Option (Nat × Nat)} {pV : Nat → Option (Nat × Nat)} (hp : ∀ i, pA i = pV i) : ∀ (ps : List (Nat × AV)) (qs : List (Nat × Value)) (cs : List AV) (vs : Array Value) (r : List AV),
    fillA pA cs ps = some r → PartsR S β ps qs → VRs S β cs vs.toList → ∃ us : Array Value, Instr.fill pV vs qs = some us ∧ VRs S β r us.toList := by
  intro ps
  induction ps with
  | nil =>
    intro qs cs vs r h hq hv
    simp only [PartsR] at hq; subst hq
    simp only [fillA, Option.some.injEq] at h; subst h
    exact ⟨vs, rfl, hv⟩
  | cons p ps ih =>
    obtain ⟨i, a⟩ := p
    intro qs cs vs r h hq hv
    simp only [PartsR] at hq
    obtain ⟨v, qs', rfl, hav, hq'⟩ := hq
    simp only [fillA] at h
    unfold Instr.fill
    rw [← hp i]
    split at h
    · simp at h
    · rename_i off size hpi
      rw [hpi]
      simp only
      split at h
      · rename_i hc
        obtain ⟨h1, h2, h3⟩ := hav.cells hc.1
        have hvs : vs.size = cs.length := by have := hv.length; simpa using this
        rw [if_neg (by simp [h1]; omega)]
        obtain ⟨g1, g2⟩ := foldl_set v.cells.toList 0 off vs
        have hfold : v.cells.zipIdx.foldl (fun cs x => cs.setIfInBounds (off + x.2) x.1) vs = (v.cells.toList.zipIdx 0).foldl (fun cs x => cs.setIfInBounds (off + x.2) x.1) vs := by
          rw [← Array.foldl_toList]
          simp
        have hle : off + (acells a).length ≤ cs.length := by rw [h3]; exact hc.2
        exact ih qs' _ _ r h hq' (hv.splice h2 hle (by rw [hfold]; exact g1) (fun i => by rw [hfold]; simpa using g2 (by simp [h1]; omega) i))
      · simp at h

theorem fieldSizes_ok (hT : TOK P T) : ∀ (fs : List Field) (r : List (Nat × Nat)), fieldSizes T (fs.map fun f => (f.offset, f.type, decide (f.name ≠ "_"))) = some r →
    (fs.mapM fun f => (do pure (f.offset, ← sizeOf f.type) : Sem (Nat × Nat))).run P w = .ok r w := by
  intro fs
  induction fs with
  | nil => intro r h; simp [fieldSizes] at h; subst h; simp
  | cons f fs ih =>
    intro r h
    simp only [List.map_cons, fieldSizes] at h
    split at h
    · rename_i ti r' ht hr
      simp only [Option.some.injEq] at h; subst h
      obtain ⟨ii, _, _, hii, _, _, _, hsz, _⟩ := (hT.get ht).ex
      simp only [List.mapM_cons, Sem.run_bind, run_sizeOf hii, Result.andThen_ok, Sem.run_pure, ih r' hr, hsz]
    · simp at h

theorem zerosOf_ok (hT : TOK P T) {t : Nat} {ti : TI} (ht : T t = some ti) (told : Bool) {i : TypeInfo} {z : Value} (hi : P.info? t = some i) (hz : i.zero = some z) : VRs S β (zerosOf told ti) z.cells.toList := by
  obtain ⟨i', d, z', hi', hd, hz', _, _, _, _, _, _, hzz, _⟩ := (hT.get ht).ex
  rw [hi] at hi'; cases hi'
  rw [hz] at hz'; cases hz'
  unfold zerosOf
  rw [← hzz]
  cases told with
  | false => exact VRs_cA1 S β _
  | true =>
    simp only [cond_true, List.map_map]
    generalize z.cells.toList = l
    induction l with
    | nil => simp [VRs]
    | cons v l ih =>
      simp only [List.map_cons, VRs]
      refine ⟨v, l, rfl, ?_, ih⟩
      simp only [Function.comp]
      split
      · rename_i hv
        unfold cA1 at hv
        split at hv <;> simp at hv
        simp [VR]
      · exact VR_cA1 S β v

theorem build_ok (hT : TOK P T) {told : Bool} {t : Nat} {parts : List (Nat × AV)} {r : AV} {qs : Array (Nat × Value)} (h : buildA T told t parts = some r) (hq : PartsR S β parts qs.toList) :
    Pur P w S β (Instr.build t qs) r := by
  unfold buildA at h
  split at h
  · simp at h
  · rename_i ti ht
    obtain ⟨i, d, z, hi, hd, hz, _, _, _, hk, _, hof, _⟩ := (hT.get ht).ex
    have hzero := zerosOf_ok (S := S) (β := β) hT ht told hi hz
    have hzr : (zeroValue t).run P w = .ok z w := by simp [zeroValue, typeInfo, hi, hz]
    split at h
    · rename_i hkk
      split at h
      · simp at h
      · rename_i pl hpl
        obtain ⟨fs, rfl⟩ : ∃ fs, d = .struct fs := by cases d <;> simp_all [kindOf]
        rw [Option.map_eq_some_iff] at h
        obtain ⟨cs, hcs, rfl⟩ := h
        rw [← hof] at hpl
        have hm := fieldSizes_ok (w := w) hT fs.toList pl hpl
        have hma : (fs.mapM fun f => (do pure (f.offset, ← sizeOf f.type) : Sem (Nat × Nat))).run P w = .ok pl.toArray w := by
          rw [Array.mapM_eq_mapM_toList]
          simp only [Sem.run_map, hm, Result.andThen_ok]
        obtain ⟨us, hus, hur⟩ := fill_ok (pV := (pl.toArray[·]?)) (fun i => by simp) parts qs.toList _ z.cells cs hcs hq hzero
        refine ⟨.agg us, ?_, by simp only [VR]; exact ⟨us.toList, by simp, hur⟩⟩
        simp only [Instr.build, Sem.run_bind, hzr, Result.andThen_ok, run_underlying hd, hma, hus, Sem.run_pure]
    · rename_i n e hkk
      split at h
      · simp at h
      · rename_i ei hei
        obtain ⟨ii, _, _, hii, _, _, _, hsz, _⟩ := (hT.get hei).ex
        cases d <;> simp only [kindOf, hkk, reduceCtorEq, TK.array.injEq] at hk
        obtain ⟨rfl, rfl⟩ := hk
        rw [Option.map_eq_some_iff] at h
        obtain ⟨cs, hcs, rfl⟩ := h
        obtain ⟨us, hus, hur⟩ := fill_ok (pV := fun i => some (i * ei.size, ei.size)) (fun i => rfl) parts qs.toList _ z.cells cs hcs hq hzero
        refine ⟨.agg us, ?_, by simp only [VR]; exact ⟨us.toList, by simp, hur⟩⟩
        simp only [Instr.build, Sem.run_bind, hzr, Result.andThen_ok, run_underlying hd, run_sizeOf hii, hsz, hus, Sem.run_pure]
    · simp at h

/-- New cells are stable from now on. -/
def Stab.withRow (S : Stab) (b : Nat) (c : List Value) : Stab := fun b' o => if b' = b then c[o]? else S b' o
theorem Stab.le_withRow {S : Stab} {b : Nat} (c : List Value) (h : ∀ o, S b o = none) : S.le (S.withRow b c) := by
  intro b' o v hv
  unfold Stab.withRow
  split
  · rename_i hb; subst hb; rw [h] at hv; simp at hv
  · exact hv
end
end Go.Av

/- Slices that are made: literals, make, append. No condition. -/
namespace Go.Av

section
variable {P : Program} {T : TT} {w : World} {S : Stab} {β : List Blk}

/-- The elements es lie in the row c, sz cells each. -/
def RowEls (S : Stab) (β : List Blk) (es : List AV) (c : Array Value) (sz : Nat) : Prop :=
  ∀ (i : Nat) (e : AV), es[i]? = some e → ∃ v, VR S β e v ∧ v.cells.size = sz ∧ ∀ (j : Nat) (x : Value), v.cells[j]? = some x → c[i * sz + j]? = some x

theorem RowEls.at {es : List AV} {c : Array Value} {sz b : Nat} {S' : Stab} (h : RowEls S β es c sz) (hS : S.le S') (hc : ∀ (o : Nat) (x : Value), c[o]? = some x → S' b o = some x) : ElsAt S' β es b 0 sz := by
  refine .of_get fun i e he => ?_
  obtain ⟨v, h1, h2, h3⟩ := h i e he
  refine ⟨v, h1.mono hS (Ext.refl β), h2, fun j x hx => ?_⟩
  rw [Nat.zero_add]
  exact hc _ _ (h3 j x (by simpa using hx))

theorem VR_zeroEl (hT : TOK P T) {t : Nat} {ti : TI} (ht : T t = some ti) {i : TypeInfo} {z : Value} (hi : P.info? t = some i) (hz : i.zero = some z) : VR S β (zeroEl ti) z ∧ z.cells.size = ti.size := by
  obtain ⟨i', d, z', hi', hd, hz', hzs, hsz, _, _, _, _, hzz, _, hag, hna⟩ := (hT.get ht).ex
  rw [hi] at hi'; cases hi'
  rw [hz] at hz'; cases hz'
  refine ⟨?_, by omega⟩
  unfold zeroEl
  cases ha : ti.agg with
  | true =>
    obtain ⟨cs, rfl⟩ := hag ha
    simp only [cond_true, VR]
    refine ⟨cs.toList, by simp, ?_⟩
    rw [← hzz]
    exact VRs_cA1 S β _
  | false =>
    have hc : z.cells = #[z] := by cases z <;> first | rfl | exact absurd rfl (hna ha _)
    rw [hc] at hzz
    simp only [cond_false, ← hzz]
    exact VR_cA1 S β z

theorem rowEls_zero (hT : TOK P T) {t : Nat} {ti : TI} (ht : T t = some ti) {i : TypeInfo} {z : Value} (hi : P.info? t = some i) (hz : i.zero = some z) (n : Nat) (zero : Array Value) (h0 : n * ti.size ≠ 0 → zero = z.cells) :
    RowEls S β (List.replicate n (zeroEl ti)) ((Array.range (n * ti.size)).map (zero[· % zero.size]!)) ti.size := by
  obtain ⟨h1, h2⟩ := VR_zeroEl (S := S) (β := β) hT ht hi hz
  intro k e he
  rw [List.getElem?_replicate] at he
  split at he
  · rename_i hk
    simp only [Option.some.injEq] at he; subst he
    refine ⟨z, h1, h2, fun j x hx => ?_⟩
    have hj : j < ti.size := by
      rcases Nat.lt_or_ge j z.cells.size with h | h
      · omega
      · rw [Array.getElem?_eq_none h] at hx; simp at hx
    have hle : k * ti.size + j < n * ti.size := by
      have : (k + 1) * ti.size ≤ n * ti.size := Nat.mul_le_mul_right _ hk
      rw [Nat.add_mul] at this
      omega
    have hzero := h0 (by omega)
    subst hzero
    have hmod : (k * ti.size + j) % z.cells.size = j := by
      rw [h2, Nat.add_comm, Nat.add_mul_mod_self_right]
      exact Nat.mod_eq_of_lt hj
    simp only [Array.getElem?_map, Array.getElem?_range, hle, if_true, Option.map_some, hmod]
    rw [getElem!_def, hx]
  · simp at he

theorem fillEls_ok {sz : Nat} : ∀ (ps : List (Nat × AV)) (qs : List (Nat × Value)) (es r : List AV) (c : Array Value), fillEls sz es ps = some r → PartsR S β ps qs → RowEls S β es c sz → c.size = es.length * sz →
    ∃ us : Array Value, Instr.fill (fun i => some (i * sz, sz)) c qs = some us ∧ RowEls S β r us sz ∧ us.size = c.size ∧ r.length = es.length := by
  intro ps
  induction ps with
  | nil =>
    intro qs es r c h hq hr hc
    simp only [PartsR] at hq; subst hq
    simp only [fillEls, Option.some.injEq] at h; subst h
    exact ⟨c, rfl, hr, rfl, rfl⟩
  | cons p ps ih =>
    obtain ⟨i, a⟩ := p
    intro qs es r c h hq hr hc
    simp only [PartsR] at hq
    obtain ⟨v, qs', rfl, hav, hq'⟩ := hq
    simp only [fillEls] at h
    split at h
    · rename_i hcond
      obtain ⟨h1, h2, h3⟩ := hav.cells hcond.1
      have hle : (i + 1) * sz ≤ es.length * sz := Nat.mul_le_mul_right _ hcond.2
      rw [Nat.add_mul] at hle
      unfold Instr.fill
      simp only
      rw [if_neg (by simp [h1]; omega)]
      have hfold : v.cells.zipIdx.foldl (fun cs x => cs.setIfInBounds (i * sz + x.2) x.1) c = (v.cells.toList.zipIdx 0).foldl (fun cs x => cs.setIfInBounds (i * sz + x.2) x.1) c := by
        rw [← Array.foldl_toList]
        simp
      obtain ⟨g1, g2⟩ := foldl_set v.cells.toList 0 (i * sz) c
      rw [← hfold] at g1 g2
      have g2 := g2 (by simp [h1]; omega)
      generalize v.cells.zipIdx.foldl (fun cs x => cs.setIfInBounds (i * sz + x.2) x.1) c = c' at g1 g2 ⊢
      obtain ⟨us, h4, h5, h6, h7⟩ := ih qs' (es.set i a) r c' h hq' (by
        intro k e he
        rw [List.getElem?_set] at he
        split at he
        · rename_i hik
          subst hik
          split at he
          · simp only [Option.some.injEq] at he; subst he
            refine ⟨v, hav, h1, fun j x hx => ?_⟩
            have hj : j < sz := by
              rcases Nat.lt_or_ge j v.cells.size with h | h
              · omega
              · rw [Array.getElem?_eq_none h] at hx; simp at hx
            rw [g2, if_pos (by simp [h1]; omega)]
            simpa using hx
          · simp at he
        · rename_i hik
          obtain ⟨u, hu1, hu2, hu3⟩ := hr k e he
          refine ⟨u, hu1, hu2, fun j x hx => ?_⟩
          have hj : j < sz := by
            rcases Nat.lt_or_ge j u.cells.size with h | h
            · omega
            · rw [Array.getElem?_eq_none h] at hx; simp at hx
          rw [g2, if_neg]
          · exact hu3 j x hx
          · simp only [Array.length_toList, h1, Nat.add_zero]
            rintro ⟨ha, hb⟩
            rcases Nat.lt_or_ge k i with hlt | hge
            · have : (k + 1) * sz ≤ i * sz := Nat.mul_le_mul_right _ hlt
              rw [Nat.add_mul] at this
              omega
            · have : (i + 1) * sz ≤ k * sz := Nat.mul_le_mul_right _ (by omega)
              rw [Nat.add_mul] at this
              omega) (by rw [g1, hc]; simp)
      exact ⟨us, h4, h5, by rw [h6, g1], by rw [h7]; simp⟩
    · simp at h

theorem buildSlice_ok (hT : TOK P T) {t n : Nat} {parts : List (Nat × AV)} {r : AV} {qs : Array (Nat × Value)} (h : buildSliceA T t n parts = some r) (hq : PartsR S β parts qs.toList) :
    ∃ (es : List AV) (c : Array Value) (e sz : Nat), r = .sl es ∧ es.length = n ∧ RowEls S β es c sz ∧
      (Instr.buildSlice t n qs).run P w = .ok (.slice (some ⟨w.heap.size, 0, none⟩) n n) (w.alloc (.cells c e)) := by
  unfold buildSliceA at h
  split at h
  · simp at h
  · rename_i ti ht
    obtain ⟨i, d, z, hi, hd, hz, _, _, _, hk, _, hof, _⟩ := (hT.get ht).ex
    split at h
    · rename_i e hkk
      have hd' : d = .slice e := by cases d <;> simp_all [kindOf]
      subst hd'
      split at h
      · simp at h
      · rename_i ei hei
        obtain ⟨ii, _, zz, hii, _, hzz, hzs, hsz, _⟩ := (hT.get hei).ex
        split at h
        · rename_i hc
          rw [Option.map_eq_some_iff] at h
          obtain ⟨es, hes, rfl⟩ := h
          have hzr : (zeroValue e).run P w = .ok zz w := by simp [zeroValue, typeInfo, hii, hzz]
          have hrow := rowEls_zero (S := S) (β := β) hT hei hii hzz n (if n * ii.size = 0 then #[] else zz.cells) (fun hne => by rw [hsz, if_neg hne])
          obtain ⟨us, h1, h2, h3, h4⟩ := fillEls_ok parts qs.toList _ es _ hes hq hrow (by simp)
          refine ⟨es, us, e, ei.size, rfl, by simpa using h4, h2, ?_⟩
          have hbig : ¬ (n * ii.size > 2 ^ 24) := by rw [hsz]; have := hc.1; omega
          simp only [Instr.buildSlice, Sem.run_bind, run_underlying hd, Result.andThen_ok, run_sizeOf hii, hbig, if_false]
          rw [hsz] at h1 ⊢
          by_cases hz0 : n * ei.size = 0
          · rw [if_pos hz0] at h1 ⊢
            simp only [Sem.run_bind, Sem.run_pure, Result.andThen_ok, h1, newRow, run_newObj, World.alloc_eq]
          · rw [if_neg hz0] at h1 ⊢
            simp only [Sem.run_bind, hzr, Sem.run_pure, Result.andThen_ok, h1, newRow, run_newObj, World.alloc_eq]
        · simp at h
    · simp at h

theorem makeSlice_ok (hT : TOK P T) {t : Nat} {an ac r : AV} {vn vc : Value} (h : makeSliceA T t an ac = some r) (hn : VR S β an vn) (hc : VR S β ac vc) :
    ∃ (es : List AV) (c : Array Value) (e sz cap : Nat), r = .sl es ∧ elemSize T t = some sz ∧ es.length ≤ cap ∧ c.size = cap * sz ∧ RowEls S β es c sz ∧
      (Instr.makeSlice t vn vc).run P w = .ok (.slice (some ⟨w.heap.size, 0, none⟩) es.length cap) (w.alloc (.cells c e)) := by
  unfold makeSliceA at h
  split at h
  · rename_i ti n m ht
    simp only [VR] at hn hc; subst hn hc
    obtain ⟨i, d, z, hi, hd, hz, _, _, _, hk, _, hof, _⟩ := (hT.get ht).ex
    split at h
    · rename_i e hkk
      have hd' : d = .slice e := by cases d <;> simp_all [kindOf]
      subst hd'
      split at h
      · simp at h
      · rename_i ei hei
        obtain ⟨ii, _, zz, hii, _, hzz, hzs, hsz, hby, _⟩ := (hT.get hei).ex
        split at h
        · rename_i hcond
          obtain ⟨h0, h1, h2, h3, h4⟩ := hcond
          simp only [Option.some.injEq] at h; subst h
          have hzr : (zeroValue e).run P w = .ok zz w := by simp [zeroValue, typeInfo, hii, hzz]
          have hwn : IntKind.i64.wrap n = n := IntWalk.i64_in n (by omega)
          have hwm : IntKind.i64.wrap m = m := IntWalk.i64_in m (by omega)
          have hrow := rowEls_zero (S := S) (β := β) hT hei hii hzz m.toNat (if m.toNat * ii.size = 0 then #[] else zz.cells) (fun hne => by rw [hsz, if_neg hne])
          refine ⟨_, (Array.range (m.toNat * ei.size)).map ((if m.toNat * ii.size = 0 then #[] else zz.cells)[· % (if m.toNat * ii.size = 0 then #[] else zz.cells).size]!), e, ei.size, m.toNat, rfl, ?_, ?_, by simp, ?_, ?_⟩
          · simp [elemSize, ht, hkk, hei]
          · simp; omega
          · intro i x hx
            rw [List.getElem?_replicate] at hx
            split at hx
            · exact hrow i x (by rw [List.getElem?_replicate, if_pos (by omega)]; exact hx)
            · simp at hx
          · have ht1 : ¬ (m < 0) := by omega
            have ht2 : ¬ (ii.bytes * m > 2 ^ 48) := by rw [hby]; omega
            have ht3 : ¬ (n < 0) := by omega
            have ht4 : ¬ (n > m) := by omega
            simp only [Instr.makeSlice, Sem.run_bind, run_underlying hd, Result.andThen_ok, asInt, asIntOf, Sem.run_pure, typeInfo, run_program, hii, hwn, hwm, ht1, ht2, ht3, ht4, decide_false, Bool.or_self, Bool.false_eq_true, if_false, run_askRoom, run_sizeOf hii, List.length_replicate]
            rw [hsz]
            by_cases hz0 : m.toNat * ei.size = 0
            · simp only [hz0, if_true, Sem.run_bind, Sem.run_pure, Result.andThen_ok, newRow, run_newObj, World.alloc_eq]
            · simp only [hz0, if_false, Sem.run_bind, hzr, Sem.run_pure, Result.andThen_ok, newRow, run_newObj, World.alloc_eq]
        · simp at h
    · simp at h
  · simp at h

/-! ### Append -/
theorem okEl_ok {sz : Nat} {a : AV} {v : Value} (h : okEl sz a = true) (hv : VR S β a v) : v.cells.size = sz ∧ VRs S β (acells a) v.cells.toList ∧ ∀ x ∈ v.cells.toList, x.oneCell' = true := by
  unfold okEl at h
  rw [Bool.and_eq_true] at h
  obtain ⟨h1, h2⟩ := h
  have h1 : sizeA a = some sz := by simpa using h1
  obtain ⟨g1, g2, _⟩ := hv.cells h1
  refine ⟨g1, g2, fun x hx => ?_⟩
  rw [List.all_eq_true] at h2
  obtain ⟨i, hi⟩ := List.getElem?_of_mem hx
  have hlt : i < (acells a).length := by
    rw [← g2.length]
    rcases Nat.lt_or_ge i v.cells.toList.length with h | h
    · exact h
    · rw [List.getElem?_eq_none h] at hi; simp at hi
  obtain ⟨y, hy, hyr⟩ := g2.get (List.getElem?_eq_getElem hlt)
  rw [hi] at hy; cases hy
  have := h2 _ (List.getElem_mem hlt)
  cases hc : (acells a)[i] <;> rw [hc] at this hyr <;> simp [okCell] at this <;> simp only [VR] at hyr
  case bool => subst hyr; rfl
  case int => subst hyr; rfl
  case nilp => subst hyr; rfl
  case nilf => subst hyr; rfl
  case nili => subst hyr; rfl
  case hn => subst hyr; rfl
  case str => obtain ⟨_, rfl, _⟩ := hyr; rfl
  case sl => obtain ⟨_, _, rfl, _⟩ := hyr; rfl
  case ip => obtain ⟨_, _, _, rfl, _⟩ := hyr; rfl
  case hp => obtain ⟨_, _, rfl⟩ := hyr; rfl
  case hs => obtain ⟨_, _, _, rfl, _⟩ := hyr; rfl
  case fn => obtain ⟨_, _, rfl, _⟩ := hyr; rfl
  case iface => obtain ⟨_, rfl, _⟩ := hyr; rfl

/-- The cells of the elements, one after another. -/
def FlatEls (S : Stab) (β : List Blk) (es : List AV) (cs : List Value) (sz : Nat) : Prop := cs.length = es.length * sz ∧ RowEls S β es cs.toArray sz ∧ ∀ x ∈ cs, x.oneCell' = true

theorem FlatEls.nil (sz : Nat) : FlatEls S β [] [] sz := ⟨by simp, fun i e h => by simp at h, fun x h => by simp at h⟩

theorem flat_of_els {sz : Nat} : ∀ {es : List AV} {b off sz' : Nat}, ElsAt S β es b off sz' → okSz sz es = true → ∃ cs : List Value, FlatEls S β es cs sz ∧ cellsAt S b off cs
  | [], b, off, _, _, _ => ⟨[], .nil sz, fun j v h => by simp at h⟩
  | e :: es, b, off, sz', h, hok => by
    simp only [ElsAt] at h
    simp only [okSz, List.all_cons, Bool.and_eq_true] at hok
    obtain ⟨⟨v, hv, hs, hc⟩, hes⟩ := h
    obtain ⟨h1, h2, h3⟩ := okEl_ok hok.1 hv
    have : sz' = sz := by omega
    subst this
    obtain ⟨cs, ⟨g1, g2, g3⟩, g4⟩ := flat_of_els hes hok.2
    refine ⟨v.cells.toList ++ cs, ⟨by simp [g1, hs, Nat.add_mul]; omega, ?_, ?_⟩, ?_⟩
    · intro i x hx
      cases i with
      | zero =>
        simp only [List.getElem?_cons_zero, Option.some.injEq] at hx; subst hx
        refine ⟨v, hv, hs, fun j y hy => ?_⟩
        have hj : j < v.cells.size := by
          rcases Nat.lt_or_ge j v.cells.size with h | h
          · exact h
          · rw [Array.getElem?_eq_none h] at hy; simp at hy
        simp only [Nat.zero_mul, Nat.zero_add, List.getElem?_toArray]
        rw [List.getElem?_append_left (by simpa using hj)]
        simpa using hy
      | succ i =>
        simp only [List.getElem?_cons_succ] at hx
        obtain ⟨u, u1, u2, u3⟩ := g2 i x hx
        refine ⟨u, u1, u2, fun j y hy => ?_⟩
        have := u3 j y hy
        simp only [List.getElem?_toArray] at this ⊢
        rw [List.getElem?_append_right (by simp [hs, Nat.add_mul]; omega)]
        rw [show (i + 1) * sz' + j - v.cells.toList.length = i * sz' + j by simp [hs, Nat.add_mul]; omega]
        exact this
    · intro x hx
      rcases List.mem_append.1 hx with hx | hx
      · exact h3 x hx
      · exact g3 x hx
    · intro j y hy
      rcases Nat.lt_or_ge j v.cells.toList.length with hlt | hge
      · rw [List.getElem?_append_left hlt] at hy
        exact hc j y hy
      · rw [List.getElem?_append_right hge] at hy
        have := g4 _ _ hy
        rwa [show off + sz' + (j - v.cells.toList.length) = off + j by simp [hs] at hge ⊢; omega] at this

theorem FlatEls.append {es fs : List AV} {cs ds : List Value} {sz : Nat} (h : FlatEls S β es cs sz) (g : FlatEls S β fs ds sz) : FlatEls S β (es ++ fs) (cs ++ ds) sz := by
  obtain ⟨h1, h2, h3⟩ := h
  obtain ⟨g1, g2, g3⟩ := g
  refine ⟨by simp [h1, g1, Nat.add_mul], fun i x hx => ?_, fun x hx => ?_⟩
  · rcases Nat.lt_or_ge i es.length with hlt | hge
    · rw [List.getElem?_append_left hlt] at hx
      obtain ⟨v, v1, v2, v3⟩ := h2 i x hx
      refine ⟨v, v1, v2, fun j y hy => ?_⟩
      have := v3 j y hy
      simp only [List.getElem?_toArray] at this ⊢
      rw [List.getElem?_append_left]
      · exact this
      · rcases Nat.lt_or_ge (i * sz + j) cs.length with h | h
        · exact h
        · rw [List.getElem?_eq_none h] at this; simp at this
    · rw [List.getElem?_append_right hge] at hx
      obtain ⟨v, v1, v2, v3⟩ := g2 _ x hx
      refine ⟨v, v1, v2, fun j y hy => ?_⟩
      have := v3 j y hy
      simp only [List.getElem?_toArray] at this ⊢
      have hm : es.length * sz ≤ i * sz := Nat.mul_le_mul_right _ hge
      rw [List.getElem?_append_right (by omega), h1]
      rw [Nat.sub_mul] at this
      rwa [show i * sz + j - es.length * sz = i * sz - es.length * sz + j by omega]
  · rcases List.mem_append.1 hx with hx | hx
    · exact h3 x hx
    · exact g3 x hx

theorem RowEls.mono_row {es : List AV} {c d : Array Value} {sz : Nat} (h : RowEls S β es c sz) (hcd : ∀ (o : Nat) (x : Value), c[o]? = some x → d[o]? = some x) : RowEls S β es d sz :=
  fun i e he => let ⟨v, h1, h2, h3⟩ := h i e he; ⟨v, h1, h2, fun j x hx => hcd _ _ (h3 j x hx)⟩

/-- A source of an append: its elements, as cells that can be loaded. -/
theorem src_ok {a : AV} {v : Value} {es : List AV} {sz : Nat} (hw : Wf S w) (h : elsOf a = some es) (hv : VR S β a v) (hok : okSz sz es = true) (hs : ∀ s, a = .str s → sz = 1) :
    (Builtin.lenOf v).run P w = .ok es.length w ∧ ∃ cs : List Value, FlatEls S β es cs sz ∧ ∀ (w' : World), (∀ (b o : Nat) (x : Value), S b o = some x → w'.cell? ⟨b, o, none⟩ = some x) → (Builtin.firstCells sz es.length v).run P w' = .ok cs.toArray w' := by
  unfold elsOf at h
  split at h
  · rename_i es0
    simp only [Option.some.injEq] at h; subst h
    simp only [VR] at hv
    obtain ⟨ad, cap, rfl, hc, hn, hsm⟩ := hv
    refine ⟨rfl, ?_⟩
    cases ad with
    | none =>
      have := hn rfl
      have he : es0 = [] := List.eq_nil_of_length_eq_zero (by omega)
      subst he
      exact ⟨[], .nil sz, fun w' _ => by simp [Builtin.firstCells]⟩
    | some q =>
      obtain ⟨h1, sz', hel⟩ := hsm q rfl
      obtain ⟨cs, g1, g2⟩ := flat_of_els hel hok
      have hq : q = ⟨q.block, q.off, none⟩ := by cases q; simp_all
      refine ⟨cs, g1, fun w' hw' => ?_⟩
      refine run_firstCells_some w' sz es0.length q es0.length cap cs g1.1 fun j x hx => ?_
      rw [hq, addr_add]
      exact hw' _ _ _ (g2 j x hx)
  · simp only [Option.some.injEq] at h; subst h
    simp only [VR] at hv; subst hv
    exact ⟨rfl, [], .nil sz, fun w' _ => by simp [Builtin.firstCells]⟩
  · simp only [Option.some.injEq] at h; subst h
    simp only [VR] at hv
    obtain ⟨_, cap, _, rfl, _⟩ := hv
    exact ⟨rfl, [], .nil sz, fun w' _ => run_firstCells_some w' sz 0 _ 0 cap [] (by simp) fun j x hx => by simp at hx⟩
  · rename_i s
    simp only [Option.some.injEq] at h; subst h
    have := hs s rfl
    subst this
    simp only [VR] at hv
    obtain ⟨y, rfl, hy⟩ := hv
    have hsz : y.size = s.length := by rw [← hy, Array.length_toList]; rfl
    refine ⟨by simp [Builtin.lenOf, hsz], s.map fun b => .int .u8 b.toNat, ⟨by simp, ?_, by simp [Value.oneCell']⟩, fun w' _ => ?_⟩
    · intro i e he
      rw [List.getElem?_map] at he
      cases hb : s[i]? with
      | none => rw [hb] at he; simp at he
      | some b =>
        rw [hb] at he
        simp only [Option.map_some, Option.some.injEq] at he; subst he
        refine ⟨.int .u8 b.toNat, by simp [VR], rfl, fun j x hx => ?_⟩
        simp only [Value.cells] at hx
        have : j = 0 := by
          rcases Nat.eq_zero_or_pos j with h | h
          · exact h
          · rw [Array.getElem?_eq_none (by simp; omega)] at hx; simp at hx
        subst this
        simp at hx
        simp [hb, hx]
    · have hx : (Array.map (fun b : UInt8 => Value.int IntKind.u8 (b.toNat : Int)) (y.extract 0 (s.map fun b => AV.int IntKind.u8 (b.toNat : Int)).length).data) = (s.map fun b => Value.int .u8 b.toNat).toArray := by
        apply Array.ext'
        rw [Array.toList_map, extract_toList, hy]
        simp
      simp only [Builtin.firstCells, Sem.run_pure, hx]
  · simp at h
end
end Go.Av

/- Append: what the model does, in its three ways. No condition. -/
namespace Go.Av

section
variable {P : Program} {T : TT} {w : World} {S : Stab} {β : List Blk}

/-- A row of cells of the run's own. -/
def Row (w : World) (b : Nat) (c : Array Value) : Prop := ∃ e : TypeId, w.heap[b]? = some (.cells c e (0, 0))

theorem Row.cell {b : Nat} {c : Array Value} (h : Row w b c) (o : Nat) : w.cell? ⟨b, o, none⟩ = c[o]? := by
  obtain ⟨e, h⟩ := h
  exact cell_of_row w b o c e _ h

/-- May the slice v of elements of sz cells be appended to: it has no spare place, or its row is the run's own. -/
def RoomOf (w : World) (sz : Nat) (v : Value) : Prop :=
  ∃ a len cap, v = .slice a len cap ∧ len ≤ cap ∧ (a = none → cap = 0) ∧ (len = cap ∨ ∃ b off c, a = some ⟨b, off, none⟩ ∧ Row w b c ∧ off + cap * sz ≤ c.size)

/-- What an append leads to: nothing new; in place; a new row. -/
inductive Appended (S : Stab) (β : List Blk) (w : World) (sz : Nat) (as bs : List AV) (vx : Value) : Value → World → Prop where
  | same (h : bs = []) : Appended S β w sz as bs vx vx w
  | place (b off cap : Nat) (c : Array Value) (cs : List Value) (hv : vx = .slice (some ⟨b, off, none⟩) as.length cap) (hr : Row w b c) (hlt : as.length + bs.length ≤ cap) (hc : off + cap * sz ≤ c.size) (hb : bs ≠ []) (hf : FlatEls S β bs cs sz) :
      Appended S β w sz as bs vx (.slice (some ⟨b, off, none⟩) (as.length + bs.length) cap)
        (w.setRow b (c.toList.take (off + as.length * sz) ++ cs ++ c.toList.drop (off + as.length * sz + cs.length)).toArray)
  | fresh (c : Array Value) (e cap : Nat) (hlt : as.length + bs.length ≤ cap) (hc : c.size = cap * sz) (hr : RowEls S β (as ++ bs) c sz) (hb : bs ≠ []) :
      Appended S β w sz as bs vx (.slice (some ⟨w.heap.size, 0, none⟩) (as.length + bs.length) cap) (w.drew.alloc (.cells c e))

theorem append_run (hT : TOK P T) (hw : Wf S w) {t u e ty : Nat} {ti ei : TI} {as bs : List AV} {y : AV} {vx vy : Value} (ht : T t = some ti) (hk : ti.kind = .slice e) (hei : T e = some ei)
    (hu : isAppT T u = true) (hx : VR S β (.sl as) vx) (hy : VR S β y vy) (hels : elsOf y = some bs) (hstr : ∀ s, y = .str s → ei.size = 1)
    (hoa : okSz ei.size as = true) (hob : okSz ei.size bs = true) (hby : (as.length + bs.length) * ei.bytes ≤ 140737488355328) (hb0 : 0 < ei.bytes) (hroom : RoomOf w ei.size vx) :
    ∃ v w', (Builtin.append_ #[t, u] ty #[vx, vy]).run P w = .ok v w' ∧ Appended S β w ei.size as bs vx v w' := by
  obtain ⟨_, d, _, _, hd, _, _, _, _, hkd, _⟩ := (hT.get ht).ex
  have hd' : d = .slice e := by cases d <;> simp_all [kindOf]
  subst hd'
  obtain ⟨ii, _, zz, hii, _, hzz, hzs, hsz, hbb, _⟩ := (hT.get hei).ex
  obtain ⟨hlen, cs, hflat, hfirst⟩ := src_ok (P := P) hw hels hy hob hstr
  have hz : ∃ du, P.underlying u = some du ∧ ((∃ e', du = .slice e') ∨ du = .string) := by
    unfold isAppT at hu
    split at hu
    · rename_i tu htu
      obtain ⟨_, du, _, _, hdu, _, _, _, _, hku, _⟩ := (hT.get htu).ex
      refine ⟨du, hdu, ?_⟩
      split at hu
      · rename_i e' hk'
        exact .inl ⟨e', by cases du <;> simp_all [kindOf]⟩
      · exact .inr (by cases du <;> simp_all [kindOf])
      · simp at hu
    · simp at hu
  obtain ⟨du, hdu, hduk⟩ := hz
  obtain ⟨a, len, cap, rfl, hlc, hnone, hspare⟩ := hroom
  have hx0 := hx
  simp only [VR] at hx
  obtain ⟨a', cap', he, _, _, hsome⟩ := hx
  simp only [Value.slice.injEq] at he
  obtain ⟨rfl, rfl, rfl⟩ := he
  by_cases hfit : as.length + bs.length ≤ cap
  · -- in place
    by_cases hnil : bs = []
    · subst hnil
      refine ⟨.slice a as.length cap, w, ?_, .same rfl⟩
      have hcs : cs = [] := List.eq_nil_of_length_eq_zero (by have := hflat.1; simpa using this)
      subst hcs
      have hf : (Builtin.firstCells ei.size 0 vy).run P w = .ok #[] w := by simpa using hfirst w hw
      rcases hduk with ⟨e', rfl⟩ | rfl <;> cases a <;>
        simp [Builtin.append_, run_underlying hd, run_underlying hdu, sizeOf, typeInfo, hii, hsz, hlen, hlc, hf, storeCells]
    · have hpos : 0 < bs.length := List.length_pos_iff.2 hnil
      rcases hspare with hsp | ⟨b, off, c, rfl, ⟨ce, hrow⟩, hcap⟩
      · omega
      · refine ⟨_, _, ?_, .place b off cap c cs rfl ⟨ce, hrow⟩ hfit hcap hnil hflat⟩
        have hf := hfirst w hw
        have hl := hflat.1
        have hle : (as.length + bs.length) * ei.size ≤ cap * ei.size := Nat.mul_le_mul_right _ hfit
        rw [Nat.add_mul] at hle
        have hst := run_storeCells_at P b (off + as.length * ei.size) ce cs 0 c w hrow (by omega) hflat.2.2
        simp only [Nat.add_zero] at hst
        rcases hduk with ⟨e', rfl⟩ | rfl <;>
          simp [Builtin.append_, run_underlying hd, run_underlying hdu, sizeOf, typeInfo, hii, hsz, hlen, hfit, hf, addr_add, hst]
  · -- a new row
    have hne : bs ≠ [] := by rintro rfl; simp at hfit; omega
    have hgt : cap < as.length + bs.length := by omega
    have h63 : ¬ (9223372036854775807 < ((as.length : Int) + (bs.length : Int))) := by
      have := Nat.le_trans (Nat.le_mul_of_pos_right (as.length + bs.length) hb0) hby
      omega
    have hfit48 := growslice_fits hgt hby
    have h48 : ¬ (281474976710656 < Builtin.nextslicecap (as.length + bs.length) cap * ei.bytes) := by omega
    have hb0' : ei.bytes ≠ 0 := by omega
    -- the old cells
    have hold : ∃ os : List Value, FlatEls S β as os ei.size ∧ (Builtin.firstCells ei.size as.length (.slice a as.length cap)).run P w.drew = .ok os.toArray w.drew := by
      obtain ⟨_, os, h1, h2⟩ := src_ok (P := P) (es := as) (sz := ei.size) hw (a := .sl as) rfl hx0 hoa (fun s h => by cases h)
      exact ⟨os, h1, h2 w.drew (fun b o x hx => by simpa using hw b o x hx)⟩
    obtain ⟨os, hos, hof⟩ := hold
    have hf := hfirst w.drew (fun b o x hx => by simpa using hw b o x hx)
    have hall := hos.append hflat
    have hcapn : as.length + bs.length ≤ grownCap w (as.length + bs.length) cap e := by
      exact Nat.le_add_right _ _
    have hzcs : (Builtin.zeroCells zz.cells (grownCap w (as.length + bs.length) cap e - (as.length + bs.length))).size = (grownCap w (as.length + bs.length) cap e - (as.length + bs.length)) * ei.size := by
      rw [size_zeroCells, hzs, hsz]
    refine ⟨_, _, ?_, .fresh ((os ++ cs).toArray ++ Builtin.zeroCells zz.cells (grownCap w (as.length + bs.length) cap e - (as.length + bs.length))) e (grownCap w (as.length + bs.length) cap e) hcapn ?_ ?_ hne⟩
    · rcases hduk with ⟨e', rfl⟩ | rfl <;>
        (simp [Builtin.append_, run_underlying hd, run_underlying hdu, sizeOf, typeInfo, zeroValue, hii, hsz, hzz, hlen, hfit, h63, hbb, h48, hb0', Question.forced, hf, hof, newRow, grownCap]
         congr 2
         apply Array.ext'
         simp)
    · rw [Array.size_append, hzcs]
      have := hall.1
      simp only [List.size_toArray, this, List.length_append]
      rw [← Nat.add_mul]
      congr 1
      omega
    · exact hall.2.1.mono_row fun o x hx => by
        rw [Array.getElem?_append]
        split
        · exact hx
        · rename_i hlt
          rw [Array.getElem?_eq_none (by omega)] at hx
          simp at hx
end
end Go.Av

/- The relation between an abstract frame and the model's. No condition. -/
namespace Go.Av

inductive Owner where
  | no
  | heap (l : Nat)
  | loc (B : Nat)
  | grp (g : Nat)

/-- Whether the count of draws is looked at: it only grows. -/
class Dr where
  on : Prop
variable [Dr]
/-- More memory: nothing else of the world has turned. -/
structure Gro (w w' : World) : Prop where
  size : w.heap.size ≤ w'.heap.size
  os : w'.os = w.os
  out : w'.output = w.output
  tape : w'.tape = w.tape
  cnt : Dr.on → w.drawn ≤ w'.drawn
theorem Gro.refl (w : World) : Gro w w := ⟨Nat.le_refl _, rfl, rfl, rfl, fun _ => Nat.le_refl _⟩
theorem Gro.trans {a b c : World} (h : Gro a b) (g : Gro b c) : Gro a c :=
  ⟨Nat.le_trans h.size g.size, g.os.trans h.os, g.out.trans h.out, g.tape.trans h.tape, fun d => Nat.le_trans (h.cnt d) (g.cnt d)⟩
theorem Gro.drew (w : World) : Gro w w.drew := ⟨Nat.le_refl _, rfl, rfl, rfl, fun _ => by simp⟩
theorem Gro.alloc (w : World) (c : Array Value) (t : TypeId) : Gro w (w.alloc (.cells c t)) :=
  ⟨by simp, rfl, rfl, rfl, fun _ => by simp⟩

/-- How the call began: the world, the stable cells, the heap's rows, the rows that the call may turn. -/
structure Entry where
  w : World
  S : Stab
  β : List Blk
  E : Nat → Prop
  gok : GOKw w ∧ ∀ b, b < gN → ¬ E b

def SlotR (S : Stab) (β : List Blk) (lam : Nat → Option Nat) : SV → Value → Prop
  | .val a, v => VR S β a v
  | .loc B off, v => ∃ b, lam B = some b ∧ v = .pointer (some ⟨b, off, none⟩)

/-- An owned slice: no spare place, or the spare places are nobody else's. -/
def FreeR (S : Stab) (w : World) (ω : Nat → Owner) (g : Nat) (z : Option Nat) (v : Value) : Prop :=
  ∃ a len cap, v = .slice a len cap ∧ len ≤ cap ∧ (a = none → cap = 0) ∧ (len = cap ∨ ∃ sz b off x, z = some sz ∧ a = some ⟨b, off, none⟩ ∧ Row w b x ∧ off + cap * sz ≤ x.size ∧
    ω b = .grp g ∧ ∀ o, off + len * sz ≤ o → S b o = none)

def HeapR (S : Stab) (β : List Blk) (w : World) (ω : Nat → Owner) (h : Hp) : Prop :=
  ∀ l cs, h[l]? = some cs → cs ≠ [] → ∃ b x, β[l]? = some (b, x.size) ∧ Row w b x ∧ ω b = .heap l ∧ VRs S β cs (x.toList.take cs.length) ∧ ∀ o, S b o = none

/-- A row that the frame may turn: the slices that it owns lie in new rows. -/
def MineAt (c : Entry) (ω : Nat → Owner) (b : Nat) : Prop := (c.E b ∧ ∀ g, ω b ≠ .grp g) ∨ c.w.heap.size ≤ b
omit [Dr] in
theorem MineAt.of_eq {c : Entry} {ω ω' : Nat → Owner} {b : Nat} (h : MineAt c ω b) (he : ω' b = ω b) : MineAt c ω' b :=
  h.imp (fun ⟨h1, h2⟩ => ⟨h1, fun g => by rw [he]; exact h2 g⟩) id
omit [Dr] in
theorem MineAt.of_not {c : Entry} {ω ω' : Nat → Owner} {b : Nat} (h : MineAt c ω b) (he : ∀ g, ω' b ≠ .grp g) : MineAt c ω' b := h.imp (fun ⟨h1, _⟩ => ⟨h1, he⟩) id
omit [Dr] in
theorem MineAt.low {c : Entry} {ω : Nat → Owner} {b : Nat} (h : MineAt c ω b) : c.E b ∨ c.w.heap.size ≤ b := h.imp And.left id

omit [Dr] in
theorem MineAt.grp {c : Entry} {ω : Nat → Owner} {b g : Nat} (h : MineAt c ω b) (hg : ω b = .grp g) : c.w.heap.size ≤ b := by
  rcases h with ⟨_, h⟩ | h
  · exact absurd hg (h g)
  · exact h

structure FR (c : Entry) (N : Nat) (U : Nat → Prop) (e : Env) (h : Hp) (a : Act) (w : World) (S : Stab) (β : List Blk) (γ : Nat → Value) (lam : Nat → Option Nat) (ω : Nat → Owner) : Prop where
  wf : Wf S w
  gro : Gro c.w w
  keep : ∀ b, b < c.w.heap.size → ¬ c.E b → w.heap[b]? = c.w.heap[b]? ∧ ∀ o, S b o = c.S b o
  le : c.S.le S
  ext : Ext c.β β
  hlen : β.length = h.length
  heap : HeapR S β w ω h
  tsz : N ≤ a.tmps.size ∧ N ≤ 1000
  slots : ∀ t, t < 1000 → SlotR S β lam (e.get t).v (a.tmps.getD t undef)
  grps : ∀ t g z, t < 1000 → (e.get t).g = some g → aliveG e.al g = some z → a.tmps.getD t undef = γ g
  lblk : ∀ B n, lbSize e.lb B = some n → B % 1000 = 0 ∧ 1000 ≤ B ∧ n < 1000 ∧ ∃ b x, lam B = some b ∧ Row w b x ∧ ω b = .loc B ∧ (∀ o, S b o = none) ∧
    ∀ i, i < n → ∃ v a', x[i]? = some v ∧ (e.get (B + i)).v = .val a' ∧ VR S β a' v ∧ ∀ g z, (e.get (B + i)).g = some g → aliveG e.al g = some z → v = γ g
  free : ∀ g z, aliveG e.al g = some z → FreeR S w ω g z (γ g)
  mine : ∀ b, ω b ≠ .no → MineAt c ω b ∧ b < w.heap.size
  used : (∀ t g, (e.get t).g = some g → U g) ∧ (∀ g z, aliveG e.al g = some z → U g)

theorem FR.size {c : Entry} {N : Nat} {U : Nat → Prop} {e : Env} {h : Hp} {a : Act} {w : World} {S : Stab} {β : List Blk} {γ : Nat → Value} {lam : Nat → Option Nat} {ω : Nat → Owner} (H : FR c N U e h a w S β γ lam ω) : c.w.heap.size ≤ w.heap.size := H.gro.size
theorem FR.gokw {c : Entry} {N : Nat} {U : Nat → Prop} {e : Env} {h : Hp} {a : Act} {w : World} {S : Stab} {β : List Blk} {γ : Nat → Value} {lam : Nat → Option Nat} {ω : Nat → Owner} (H : FR c N U e h a w S β γ lam ω) : GOKw w :=
  c.gok.1.mono fun b hb => (H.keep b (Nat.lt_of_lt_of_le hb c.gok.1.lt) (c.gok.2 b hb)).1
omit [Dr] in
theorem Row.lt {w : World} {b : Nat} {x : Array Value} (h : Row w b x) : b < w.heap.size := by
  obtain ⟨e, h⟩ := h
  exact (Array.getElem?_eq_some_iff.1 h).1
omit [Dr] in
theorem Row.of_eq {w w' : World} {b : Nat} {x : Array Value} (h : Row w b x) (he : w'.heap[b]? = w.heap[b]?) : Row w' b x := by
  obtain ⟨e, h⟩ := h
  exact ⟨e, by rw [he, h]⟩
omit [Dr] in
theorem Wf.lt {S : Stab} {w : World} (h : Wf S w) {b o : Nat} {v : Value} (hv : S b o = some v) : b < w.heap.size := block_lt_of_cell (h b o v hv)
omit [Dr] in
theorem Wf.none {S : Stab} {w : World} (h : Wf S w) {b : Nat} (hb : w.heap.size ≤ b) (o : Nat) : S b o = none := by
  cases hs : S b o with
  | none => rfl
  | some v => have := h.lt hs; omega
omit [Dr] in
theorem cell_of_heap {w w' : World} {b : Nat} (h : w'.heap[b]? = w.heap[b]?) (o : Nat) : w'.cell? ⟨b, o, none⟩ = w.cell? ⟨b, o, none⟩ := by
  simp [World.cell?, h]

section
variable {c : Entry} {N : Nat} {U : Nat → Prop} {e : Env} {h : Hp} {a : Act} {w : World} {S : Stab} {β : List Blk} {γ : Nat → Value} {lam : Nat → Option Nat} {ω : Nat → Owner}

/-- More memory: all that was stays as it is. -/
theorem FR.world (H : FR c N U e h a w S β γ lam ω) {w' : World} {S' : Stab} (hw : Wf S' w') (hg : Gro w w')
    (hk : ∀ b, b < w.heap.size → w'.heap[b]? = w.heap[b]? ∧ ∀ o, S' b o = S b o) (hle : S.le S') : FR c N U e h a w' S' β γ lam ω := by
  have hrow : ∀ {b x}, Row w b x → Row w' b x := fun hr => hr.of_eq (hk _ hr.lt).1
  have hs := hg.size
  refine ⟨hw, H.gro.trans hg, fun b hb hE => ?_, Stab.le_trans H.le hle, H.ext, H.hlen, ?_, H.tsz, ?_, H.grps, ?_, ?_, fun b hb => ⟨(H.mine b hb).1, Nat.lt_of_lt_of_le (H.mine b hb).2 hs⟩, H.used⟩
  · have h1 := hk b (Nat.lt_of_lt_of_le hb H.size)
    have h2 := H.keep b hb hE
    exact ⟨h1.1.trans h2.1, fun o => (h1.2 o).trans (h2.2 o)⟩
  · intro l cs hl hne
    obtain ⟨b, x, h1, h2, h3, h4, h5⟩ := H.heap l cs hl hne
    exact ⟨b, x, h1, hrow h2, h3, h4.mono hle (Ext.refl β), fun o => by rw [(hk b h2.lt).2]; exact h5 o⟩
  · intro t ht
    have := H.slots t ht
    cases hv : (e.get t).v with
    | val av => rw [hv] at this; exact VR.mono hle (Ext.refl β) _ _ this
    | loc B off => rw [hv] at this; exact this
  · intro B n hB
    obtain ⟨h1, h2, h3, b, x, h4, h5, h6, h7, h8⟩ := H.lblk B n hB
    refine ⟨h1, h2, h3, b, x, h4, hrow h5, h6, fun o => by rw [(hk b h5.lt).2]; exact h7 o, fun i hi => ?_⟩
    obtain ⟨v, a', g1, g2, g3, g4⟩ := h8 i hi
    exact ⟨v, a', g1, g2, VR.mono hle (Ext.refl β) _ _ g3, g4⟩
  · intro g z hg
    obtain ⟨a', len, cap, h1, h2, h3, h4⟩ := H.free g z hg
    refine ⟨a', len, cap, h1, h2, h3, h4.imp id ?_⟩
    rintro ⟨sz, b, off, x, g1, g2, g3, g4, g5, g6⟩
    exact ⟨sz, b, off, x, g1, g2, hrow g3, g4, g5, fun o ho => by rw [(hk b g3.lt).2]; exact g6 o ho⟩

theorem FR.drew (H : FR c N U e h a w S β γ lam ω) : FR c N U e h a w.drew S β γ lam ω :=
  H.world (fun b o v hv => by rw [World.cell?_drew]; exact H.wf b o v hv) (Gro.drew w) (fun b _ => ⟨rfl, fun _ => rfl⟩) (Stab.le_refl S)

omit [Dr] in
theorem alloc_old (w : World) (o : Obj) {b : Nat} (hb : b < w.heap.size) : (w.alloc o).heap[b]? = w.heap[b]? := heap_alloc_old w o hb

/-- A new row that nobody reads as stable. -/
theorem FR.alloc (H : FR c N U e h a w S β γ lam ω) (x : Array Value) (t : TypeId) : FR c N U e h a (w.alloc (.cells x t)) S β γ lam ω :=
  H.world (fun b o v hv => by rw [cell_of_heap (alloc_old w _ (H.wf.lt hv))]; exact H.wf b o v hv) (Gro.alloc w x t) (fun b hb => ⟨alloc_old w _ hb, fun _ => rfl⟩) (Stab.le_refl S)

omit [Dr] in
theorem Row.new (w : World) (x : Array Value) (t : TypeId) : Row (w.alloc (.cells x t)) w.heap.size x := ⟨t, heap_alloc_new w _⟩

/-- A new row whose first k cells are stable. -/
def Stab.withRowTo (S : Stab) (b k : Nat) (x : Array Value) : Stab := fun b' o => if b' = b then (if o < k then x[o]? else none) else S b' o

theorem FR.allocS (H : FR c N U e h a w S β γ lam ω) (x : Array Value) (t : TypeId) (k : Nat) : FR c N U e h a (w.alloc (.cells x t)) (S.withRowTo w.heap.size k x) β γ lam ω := by
  have hn : ∀ o, S w.heap.size o = none := fun o => H.wf.none (Nat.le_refl _) o
  refine H.world (fun b o v hv => ?_) (Gro.alloc w x t) (fun b hb => ⟨alloc_old w _ hb, fun o => ?_⟩) (fun b o v hv => ?_)
  · unfold Stab.withRowTo at hv
    split at hv
    · rename_i hb
      subst hb
      rw [(Row.new w x t).cell]
      split at hv
      · exact hv
      · simp at hv
    · rw [cell_of_heap (alloc_old w _ (H.wf.lt hv))]; exact H.wf b o v hv
  · unfold Stab.withRowTo
    rw [if_neg (by omega)]
  · unfold Stab.withRowTo
    split
    · rename_i hb; subst hb; rw [hn] at hv; simp at hv
    · exact hv

omit [Dr] in
theorem get_upd (e : Env) (d : Option Tmp) (u : Upd) (t : Nat) : (e.upd d u).get t = if d = some t then u.ent else lookE (u.ls ++ e.sl) t := by
  unfold Env.upd Env.get slD
  cases d with
  | none => simp
  | some s =>
    simp only [lookE, Option.some.injEq]
    by_cases hs : s = t
    · subst hs; simp
    · have : Nat.beq s t = false := by
        rw [Bool.eq_false_iff]; intro hh; exact hs (Nat.eq_of_beq_eq_true hh)
      simp [hs, this]

omit [Dr] in
theorem tmps_put (a : Act) (d : Option Tmp) (v : Value) {N : Nat} (hd : ∀ t, d = some t → t < N) (hN : N ≤ a.tmps.size) (t : Nat) :
    (a.put d v).tmps.getD t undef = if d = some t then v else a.tmps.getD t undef := by
  cases d with
  | none => simp [Act.put]
  | some s =>
    have hlt := hd s rfl
    simp only [Act.put, Option.some.injEq, Array.getD_eq_getD_getElem?, Array.getElem?_setIfInBounds]
    by_cases hs : s = t
    · subst hs
      simp [Nat.lt_of_lt_of_le hlt hN]
    · simp [hs]
omit [Dr] in
theorem tmps_put_size (a : Act) (d : Option Tmp) (v : Value) : (a.put d v).tmps.size = a.tmps.size := by
  cases d <;> simp [Act.put]

omit [Dr] in
theorem aliveG_cons (k : Nat) (x : Option Nat) (r : List (Nat × Option Nat)) (g : Nat) : aliveG ((k, x) :: r) g = if k = g then some x else aliveG r g := by
  simp only [aliveG]
  by_cases hk : k = g
  · subst hk; simp
  · have : Nat.beq k g = false := by rw [Bool.eq_false_iff]; intro hh; exact hk (Nat.eq_of_beq_eq_true hh)
    simp [hk, this]
omit [Dr] in
theorem aliveG_drop (r : List (Nat × Option Nat)) (k g : Nat) : aliveG (dropG r k) g = if k = g then none else aliveG r g := by
  induction r with
  | nil => simp [dropG, aliveG]
  | cons x r ih =>
    obtain ⟨j, y⟩ := x
    simp only [dropG]
    by_cases hj : j = k
    · subst hj
      simp only [Nat.beq_refl, cond_true, ih, aliveG_cons]
      split <;> rfl
    · have : Nat.beq j k = false := by rw [Bool.eq_false_iff]; intro hh; exact hj (Nat.eq_of_beq_eq_true hh)
      simp only [this, cond_false, aliveG_cons, ih]
      by_cases hg : j = g
      · subst hg; rw [if_pos rfl, if_neg (fun h => hj h.symm), if_pos rfl]
      · rw [if_neg hg, if_neg hg]

/-- A new entry for the result, no new group. -/
theorem FR.set (H : FR c N U e h a w S β γ lam ω) {d : Option Tmp} {x : Ent} {v : Value} (hd : ∀ t, d = some t → t < N)
    (hs : SlotR S β lam x.v v) (hg : ∀ g z, x.g = some g → aliveG e.al g = some z → v = γ g) (hu : ∀ g, x.g = some g → U g) :
    FR c N U (e.upd d { ent := x }) h (a.put d v) w S β γ lam ω := by
  have hget : ∀ t, (e.upd d { ent := x }).get t = if d = some t then x else e.get t := fun t => by rw [get_upd]; rfl
  have hal : (e.upd d { ent := x }).al = e.al := rfl
  have hlb : (e.upd d { ent := x }).lb = e.lb := rfl
  have hdl : ∀ B i : Nat, 1000 ≤ B → d ≠ some (B + i) := fun B i hB hh => by have h1 : B + i < N := hd _ hh; have h2 := H.tsz.2; omega
  refine ⟨H.wf, H.gro, H.keep, H.le, H.ext, H.hlen, H.heap, by rw [tmps_put_size]; exact H.tsz, fun t ht => ?_, fun t g z ht hgg hz => ?_, fun B n hB => ?_, H.free, H.mine, ⟨fun t g hgg => ?_, H.used.2⟩⟩
  · rw [hget, tmps_put a d v hd H.tsz.1]
    split
    · exact hs
    · exact H.slots t ht
  · rw [hget] at hgg
    rw [tmps_put a d v hd H.tsz.1]
    split at hgg
    · rename_i hdt; rw [if_pos hdt]; exact hg g z hgg hz
    · rename_i hdt; rw [if_neg hdt]; exact H.grps t g z ht hgg hz
  · rw [hlb] at hB
    obtain ⟨h1, h2, h3, b, y, h4, h5, h6, h7, h8⟩ := H.lblk B n hB
    refine ⟨h1, h2, h3, b, y, h4, h5, h6, h7, fun i hi => ?_⟩
    rw [hget, if_neg (hdl B i h2)]
    exact h8 i hi
  · rw [hget] at hgg
    split at hgg
    · exact hu g hgg
    · exact H.used.1 t g hgg

theorem FR.setV (H : FR c N U e h a w S β γ lam ω) {d : Option Tmp} {r : AV} {v : Value} (hd : ∀ t, d = some t → t < N) (hv : VR S β r v) :
    FR c N U (e.upd d (.ofV r)) h (a.put d v) w S β γ lam ω :=
  H.set (x := ⟨.val r, none⟩) hd hv (fun _ _ h => by cases h) (fun _ h => by cases h)

/-- Owners after a row b has got the owner y. -/
def setO (ω : Nat → Owner) (b : Nat) (y : Owner) : Nat → Owner := fun b' => if b' = b then y else ω b'

/-- A new entry that opens a group of its own. -/
theorem FR.own (H : FR c N U e h a w S β γ lam ω) {d : Option Tmp} {r : AV} {v : Value} {gid : Nat} {z : Option Nat} (hd : ∀ t, d = some t → t < N) (hv : VR S β r v) (hU : ∀ g, gid ≤ g → g < gid + 1000 → ¬ U g)
    (hf : (∃ a len, v = .slice a len len ∧ (a = none → len = 0)) ∨ ∃ len cap sz b off x, v = .slice (some ⟨b, off, none⟩) len cap ∧ len ≤ cap ∧ z = some sz ∧ Row w b x ∧ off + cap * sz ≤ x.size ∧ ω b = .no ∧ c.w.heap.size ≤ b ∧
      (∀ o, off + len * sz ≤ o → S b o = none)) :
    ∃ ω', FR c N (fun g => U g ∨ (gid ≤ g ∧ g < gid + 1000)) (e.upd d (.own r gid z)) h (a.put d v) w S β (fun g => if g = gid then v else γ g) lam ω' := by
  have hget : ∀ t, (e.upd d (.own r gid z)).get t = if d = some t then ⟨.val r, some gid⟩ else e.get t := fun t => by rw [get_upd]; rfl
  have hal : (e.upd d (.own r gid z)).al = (gid, z) :: e.al := rfl
  have hlb : (e.upd d (.own r gid z)).lb = e.lb := rfl
  have hdl : ∀ B i : Nat, 1000 ≤ B → d ≠ some (B + i) := fun B i hB hh => by have h1 : B + i < N := hd _ hh; have h2 := H.tsz.2; omega
  have hne : ∀ t g, (e.get t).g = some g → g ≠ gid := fun t g hg hh => hU g (by omega) (by omega) (H.used.1 t g hg)
  have hna : ∀ g y, aliveG e.al g = some y → g ≠ gid := fun g y hg hh => hU g (by omega) (by omega) (H.used.2 g y hg)
  have halv : ∀ g, g ≠ gid → aliveG ((gid, z) :: e.al) g = aliveG e.al g := fun g hg => by rw [aliveG_cons, if_neg (fun h => hg h.symm)]
  have key : ∀ ω' : Nat → Owner, (∀ b, ω b ≠ .no → ω' b = ω b) → (∀ b, ω' b ≠ .no → MineAt c ω' b ∧ b < w.heap.size) → FreeR S w ω' gid z v →
      FR c N (fun g => U g ∨ (gid ≤ g ∧ g < gid + 1000)) (e.upd d (.own r gid z)) h (a.put d v) w S β (fun g => if g = gid then v else γ g) lam ω' := by
    intro ω' hω hmine hfree
    refine ⟨H.wf, H.gro, H.keep, H.le, H.ext, H.hlen, ?_, by rw [tmps_put_size]; exact H.tsz, fun t ht => ?_, fun t g y ht hgg hz => ?_, fun B n hB => ?_, fun g y hg => ?_, hmine, ⟨fun t g hgg => ?_, fun g y hg => ?_⟩⟩
    · intro l cs hl hcs
      obtain ⟨b, x, h1, h2, h3, h4⟩ := H.heap l cs hl hcs
      exact ⟨b, x, h1, h2, by rw [hω b (by rw [h3]; simp)]; exact h3, h4⟩
    · rw [hget, tmps_put a d v hd H.tsz.1]
      split
      · exact hv
      · exact H.slots t ht
    · rw [hget] at hgg
      rw [hal] at hz
      rw [tmps_put a d v hd H.tsz.1]
      split at hgg
      · rename_i hdt
        rw [if_pos hdt]
        simp only [Option.some.injEq] at hgg
        simp [← hgg]
      · rename_i hdt
        have hg := hne t g hgg
        rw [if_neg hdt, if_neg hg]
        rw [halv g hg] at hz
        exact H.grps t g y ht hgg hz
    · rw [hlb] at hB
      obtain ⟨h1, h2, h3, b, x, h4, h5, h6, h7, h8⟩ := H.lblk B n hB
      refine ⟨h1, h2, h3, b, x, h4, h5, by rw [hω b (by rw [h6]; simp)]; exact h6, h7, fun i hi => ?_⟩
      rw [hget, if_neg (hdl B i h2)]
      obtain ⟨u, a', g1, g2, g3, g4⟩ := h8 i hi
      refine ⟨u, a', g1, g2, g3, fun g y hg hy => ?_⟩
      have hgn := hne _ g hg
      rw [if_neg hgn]
      rw [hal, halv g hgn] at hy
      exact g4 g y hg hy
    · rw [hal, aliveG_cons] at hg
      split at hg
      · rename_i hgg
        subst hgg
        simp only [Option.some.injEq] at hg; subst hg
        simpa using hfree
      · rename_i hgg
        have hgn : g ≠ gid := fun h => hgg h.symm
        simp only [if_neg hgn]
        obtain ⟨a', len, cap, h1, h2, h3, h4⟩ := H.free g y hg
        refine ⟨a', len, cap, h1, h2, h3, h4.imp id ?_⟩
        rintro ⟨sz, b, off, x, g1, g2, g3, g4, g5, g6⟩
        exact ⟨sz, b, off, x, g1, g2, g3, g4, by rw [hω b (by rw [g5]; simp)]; exact g5, g6⟩
    · rw [hget] at hgg
      split at hgg
      · simp only [Option.some.injEq] at hgg; exact .inr (by omega)
      · exact .inl (H.used.1 t g hgg)
    · rw [hal, aliveG_cons] at hg
      split at hg
      · rename_i hgg; exact .inr (by omega)
      · exact .inl (H.used.2 g y hg)
  rcases hf with ⟨ad, len, rfl, hn⟩ | ⟨len, cap, sz, b, off, x, rfl, h1, h2, h3, h4, h5, h6, h7⟩
  · exact ⟨ω, key ω (fun _ _ => rfl) H.mine ⟨ad, len, len, rfl, Nat.le_refl _, hn, .inl rfl⟩⟩
  · refine ⟨setO ω b (.grp gid), key _ (fun b' hb' => ?_) (fun b' hb' => ?_) ⟨some ⟨b, off, none⟩, len, cap, rfl, h1, (fun h => by cases h), .inr ⟨sz, b, off, x, h2, rfl, h3, h4, by simp [setO], h7⟩⟩⟩
    · unfold setO
      rw [if_neg]
      rintro rfl
      exact hb' h5
    · unfold setO at hb'
      split at hb'
      · rename_i hbb; subst hbb; exact ⟨.inr h6, h3.lt⟩
      · rename_i hbb; exact ⟨(H.mine b' hb').1.of_eq (by unfold setO; rw [if_neg hbb]), (H.mine b' hb').2⟩
end
end Go.Av

/- Local memory of an abstract frame. No condition. -/
namespace Go.Av
variable [Dr]

omit [Dr] in
theorem lookE_cons (k : Nat) (x : Ent) (r : List (Nat × Ent)) (t : Nat) : lookE ((k, x) :: r) t = if k = t then x else lookE r t := by
  simp only [lookE]
  by_cases hk : k = t
  · subst hk; simp
  · have : Nat.beq k t = false := by rw [Bool.eq_false_iff]; intro hh; exact hk (Nat.eq_of_beq_eq_true hh)
    simp [hk, this]

omit [Dr] in
theorem lookE_range (f : Nat → Ent) (B : Nat) (r : List (Nat × Ent)) (t : Nat) : ∀ n k, lookE (((List.range' k n).map fun i => (B + i, f i)) ++ r) t =
    if B + k ≤ t ∧ t < B + k + n then f (t - B) else lookE r t := by
  intro n
  induction n with
  | zero => intro k; simp; omega
  | succ n ih =>
    intro k
    simp only [List.range'_succ, List.map_cons, List.cons_append, lookE_cons, ih]
    by_cases h : B + k = t
    · subst h
      rw [if_pos rfl, if_pos (by omega)]
      congr 1
      omega
    · rw [if_neg h]
      by_cases h2 : B + (k + 1) ≤ t ∧ t < B + (k + 1) + n
      · rw [if_pos h2, if_pos (by omega)]
      · rw [if_neg h2, if_neg (by omega)]

/-- The entry of a local cell. -/
def cellEnt (cs : List AV) (offs : List Nat) (gid i : Nat) : Ent := bif memN offs i then ⟨.val (.sl []), some (gid + i)⟩ else ⟨.val (nth cs i), none⟩

omit [Dr] in
theorem lookE_lsOf (B : Nat) (cs : List AV) (offs : List Nat) (gid n : Nat) (r : List (Nat × Ent)) (t : Nat) :
    lookE (lsOf B cs offs gid n ++ r) t = if B ≤ t ∧ t < B + n then cellEnt cs offs gid (t - B) else lookE r t := by
  have := lookE_range (cellEnt cs offs gid) B r t n 0
  rw [← List.range_eq_range'] at this
  show lookE ((List.range n).map (fun i => (B + i, cellEnt cs offs gid i)) ++ r) t = _
  simpa using this

omit [Dr] in
theorem aliveG_append (A r : List (Nat × Option Nat)) (g : Nat) : aliveG (A ++ r) g = match aliveG A g with | some z => some z | none => aliveG r g := by
  induction A with
  | nil => simp [aliveG]
  | cons x A ih =>
    obtain ⟨k, y⟩ := x
    simp only [List.cons_append, aliveG_cons]
    by_cases hk : k = g
    · simp [hk]
    · simp [hk, ih]

omit [Dr] in
theorem lbSize_cons (k n : Nat) (r : List (Nat × Nat)) (B : Nat) : lbSize ((k, n) :: r) B = if k = B then some n else lbSize r B := by
  simp only [lbSize]
  by_cases hk : k = B
  · subst hk; simp
  · have : Nat.beq k B = false := by rw [Bool.eq_false_iff]; intro hh; exact hk (Nat.eq_of_beq_eq_true hh)
    simp [hk, this]
omit [Dr] in
theorem lbSize_drop (r : List (Nat × Nat)) (k B : Nat) : lbSize (dropB r k) B = if k = B then none else lbSize r B := by
  induction r with
  | nil => simp [dropB, lbSize]
  | cons x r ih =>
    obtain ⟨j, y⟩ := x
    simp only [dropB]
    by_cases hj : j = k
    · subst hj
      simp only [Nat.beq_refl, cond_true, ih, lbSize_cons]
      split <;> rfl
    · have : Nat.beq j k = false := by rw [Bool.eq_false_iff]; intro hh; exact hj (Nat.eq_of_beq_eq_true hh)
      simp only [this, cond_false, lbSize_cons, ih]
      by_cases hg : j = B
      · subst hg; rw [if_pos rfl, if_neg (fun h => hj h.symm), if_pos rfl]
      · rw [if_neg hg, if_neg hg]

omit [Dr] in
theorem memN_iff (l : List Nat) (t : Nat) : memN l t = true ↔ t ∈ l := by
  induction l with
  | nil => simp [memN]
  | cons k l ih =>
    simp only [memN, List.mem_cons]
    by_cases hk : k = t
    · subst hk; simp
    · have : Nat.beq k t = false := by rw [Bool.eq_false_iff]; intro hh; exact hk (Nat.eq_of_beq_eq_true hh)
      simp [this, ih, Ne.symm hk]

/-- New groups of nil slices, all in the operation's own numbers. -/
def NilGroups (A : List (Nat × Option Nat)) (gid : Nat) : Prop := ∀ g z, aliveG A g = some z → z = none ∧ gid ≤ g ∧ g < gid + 1000

omit [Dr] in
theorem nilGroups_gsOf {offs : List Nat} {gid n : Nat} (h : ∀ i ∈ offs, i < n) (hn : n < 1000) : NilGroups (gsOf offs gid) gid := by
  intro g z hg
  unfold gsOf at hg
  induction offs with
  | nil => simp [aliveG] at hg
  | cons i offs ih =>
    simp only [List.map_cons, aliveG_cons] at hg
    split at hg
    · rename_i hi
      simp only [Option.some.injEq] at hg
      have := h i (by simp)
      exact ⟨hg.symm, by omega, by omega⟩
    · exact ih (fun j hj => h j (by simp [hj])) hg
omit [Dr] in
theorem nilGroups_nil (gid : Nat) : NilGroups [] gid := fun g z h => by simp [aliveG] at h
omit [Dr] in
theorem nilGroups_one (gid : Nat) : NilGroups [(gid, none)] gid := fun g z h => by
  rw [aliveG_cons] at h
  split at h
  · simp only [Option.some.injEq] at h; exact ⟨h.symm, by omega, by omega⟩
  · simp [aliveG] at h

section
variable {c : Entry} {N : Nat} {U : Nat → Prop} {e : Env} {h : Hp} {a : Act} {w : World} {S : Stab} {β : List Blk} {γ : Nat → Value} {lam : Nat → Option Nat} {ω : Nat → Owner}

def γN (γ : Nat → Value) (gid : Nat) : Nat → Value := fun g => if gid ≤ g ∧ g < gid + 1000 then .slice none 0 0 else γ g

/-- The groups after nil slices have got groups of their own. -/
theorem alive_new (H : FR c N U e h a w S β γ lam ω) {A : List (Nat × Option Nat)} {gid : Nat} (hU : ∀ g, gid ≤ g → g < gid + 1000 → ¬ U g) (hA : NilGroups A gid) {g : Nat} {z : Option Nat}
    (hg : aliveG (A ++ e.al) g = some z) : (z = none ∧ gid ≤ g ∧ g < gid + 1000) ∨ (aliveG e.al g = some z ∧ ¬ (gid ≤ g ∧ g < gid + 1000)) := by
  rw [aliveG_append] at hg
  cases hh : aliveG A g with
  | some y => rw [hh] at hg; simp only [Option.some.injEq] at hg; subst hg; exact .inl (hA g _ hh)
  | none =>
    rw [hh] at hg
    exact .inr ⟨hg, fun hr => hU g hr.1 hr.2 (H.used.2 g z hg)⟩

theorem free_new (H : FR c N U e h a w S β γ lam ω) {A : List (Nat × Option Nat)} {gid : Nat} (hU : ∀ g, gid ≤ g → g < gid + 1000 → ¬ U g) (hA : NilGroups A gid) {ω' : Nat → Owner} {w' : World}
    (hω : ∀ b, ω b ≠ .no → ω' b = ω b) (hrow : ∀ b x g, ω b = .grp g → Row w b x → Row w' b x) {g : Nat} {z : Option Nat}
    (hg : aliveG (A ++ e.al) g = some z) : FreeR S w' ω' g z (γN γ gid g) := by
  rcases alive_new H hU hA hg with ⟨rfl, h1⟩ | ⟨h1, h2⟩
  · unfold γN
    rw [if_pos h1]
    exact ⟨none, 0, 0, rfl, Nat.le_refl _, fun _ => rfl, .inl rfl⟩
  · unfold γN
    rw [if_neg h2]
    obtain ⟨a', len, cap, g1, g2, g3, g4⟩ := H.free g z h1
    refine ⟨a', len, cap, g1, g2, g3, g4.imp id ?_⟩
    rintro ⟨sz, b, off, x, k1, k2, k3, k4, k5, k6⟩
    exact ⟨sz, b, off, x, k1, k2, hrow b x g k5 k3, k4, by rw [hω b (by rw [k5]; simp)]; exact k5, k6⟩

/-- A new local block. -/
theorem FR.allocL (H : FR c N U e h a w S β γ lam ω) {s n gid : Nat} {x : Array Value} {t : TypeId} {cs : List AV} {offs : List Nat} (hs : s < N) (hU : ∀ g, gid ≤ g → g < gid + 1000 → ¬ U g)
    (hn : n < 1000) (hcs : ∀ i, i < n → ∃ v, x[i]? = some v ∧ VR S β (nth cs i) v) (hnil : ∀ i ∈ offs, i < n ∧ x[i]? = some (.slice none 0 0)) (hfree : locFree e.sl (lbase s) = true) :
    ∃ lam' ω', FR c N (fun g => U g ∨ (gid ≤ g ∧ g < gid + 1000)) (e.upd (some s) { ent := ⟨.loc (lbase s) 0, none⟩, ls := lsOf (lbase s) cs offs gid n, add := gsOf offs gid, lb := some (lbase s, n) }) h
      (a.put (some s) (.pointer (some ⟨w.heap.size, 0, none⟩))) (w.alloc (.cells x t)) S β (γN γ gid) lam' ω' := by
  have H2 := H.alloc x t
  have hA : NilGroups (gsOf offs gid) gid := nilGroups_gsOf (fun i hi => (hnil i hi).1) hn
  have hwn : ∀ o, S w.heap.size o = none := fun o => H.wf.none (Nat.le_refl _) o
  have hωn : ω w.heap.size = .no := by
    cases ho : ω w.heap.size with
    | no => rfl
    | _ => have := (H.mine w.heap.size (by rw [ho]; simp)).2; omega
  have hω : ∀ b, ω b ≠ .no → setO ω w.heap.size (.loc (lbase s)) b = ω b := fun b hb => by
    unfold setO; rw [if_neg]; rintro rfl; exact hb hωn
  have hget : ∀ t', (e.upd (some s) { ent := ⟨.loc (lbase s) 0, none⟩, ls := lsOf (lbase s) cs offs gid n, add := gsOf offs gid, lb := some (lbase s, n) }).get t' =
      if s = t' then ⟨.loc (lbase s) 0, none⟩ else if lbase s ≤ t' ∧ t' < lbase s + n then cellEnt cs offs gid (t' - lbase s) else e.get t' := by
    intro t'
    rw [get_upd, lookE_lsOf]
    simp only [Option.some.injEq]
    rfl
  have hB : lbase s = 1000 * (s + 1) := rfl
  have hN := H.tsz.2
  have hnoloc : ∀ t' off, (e.get t').v ≠ .loc (lbase s) off := by
    intro t' off hv
    unfold Env.get at hv
    unfold locFree at hfree
    rw [List.all_eq_true] at hfree
    revert hv hfree
    generalize e.sl = l
    intro hfree
    induction l with
    | nil => intro hv; simp [lookE, Ent.none] at hv
    | cons y l ih =>
      obtain ⟨k, y⟩ := y
      intro hv
      rw [lookE_cons] at hv
      split at hv
      · have := hfree (k, y) (by simp)
        simp [hv] at this
      · exact ih (fun z hz => hfree z (by simp [hz])) hv
  have hmemoff : ∀ i, memN offs i = true → i < n ∧ x[i]? = some (.slice none 0 0) := fun i hi => hnil i ((memN_iff _ _).1 hi)
  refine ⟨fun B' => if B' = lbase s then some w.heap.size else lam B', setO ω w.heap.size (.loc (lbase s)), H2.wf, H2.gro, H2.keep, H2.le, H2.ext, H2.hlen, ?_, by rw [tmps_put_size]; exact H.tsz, ?_, ?_, ?_, ?_, ?_, ?_, ?_⟩
  · intro l cs' hl hne
    obtain ⟨b, y, h1, h2, h3, h4⟩ := H2.heap l cs' hl hne
    exact ⟨b, y, h1, h2, by rw [hω b (by rw [h3]; simp)]; exact h3, h4⟩
  · intro t' ht'
    rw [hget, tmps_put a (some s) _ (fun t h => by cases h; exact hs) H.tsz.1]
    simp only [Option.some.injEq]
    by_cases hst : s = t'
    · subst hst
      simp only [if_true, SlotR]
      exact ⟨_, rfl, rfl⟩
    · rw [if_neg hst, if_neg hst, if_neg (by omega)]
      have := H2.slots t' ht'
      cases hv : (e.get t').v with
      | val av => rw [hv] at this; exact this
      | loc B' off =>
        rw [hv] at this
        simp only [SlotR] at this ⊢
        rw [if_neg]
        · exact this
        · rintro rfl; exact hnoloc t' off hv
  · intro t' g z ht' hg hz
    rw [hget] at hg
    rw [tmps_put a (some s) _ (fun t h => by cases h; exact hs) H.tsz.1]
    simp only [Option.some.injEq]
    by_cases hst : s = t'
    · rw [if_pos hst] at hg; simp at hg
    · rw [if_neg hst, if_neg (by omega)] at hg
      rw [if_neg hst]
      have hr : ¬ (gid ≤ g ∧ g < gid + 1000) := fun hr => hU g hr.1 hr.2 (H.used.1 t' g hg)
      rcases alive_new H hU hA hz with ⟨_, h1⟩ | ⟨h1, _⟩
      · exact absurd h1 hr
      · unfold γN
        rw [if_neg hr]
        exact H.grps t' g z ht' hg h1
  · intro B' n' hB'
    have hlb : (e.upd (some s) { ent := ⟨.loc (lbase s) 0, none⟩, ls := lsOf (lbase s) cs offs gid n, add := gsOf offs gid, lb := some (lbase s, n) }).lb = (lbase s, n) :: e.lb := rfl
    rw [hlb, lbSize_cons] at hB'
    by_cases hBB : lbase s = B'
    · subst hBB
      rw [if_pos rfl] at hB'
      simp only [Option.some.injEq] at hB'; subst hB'
      refine ⟨by omega, by omega, hn, w.heap.size, x, by simp, Row.new w x t, by simp [setO], hwn, fun i hi => ?_⟩
      rw [hget, if_neg (by omega), if_pos (by omega), show lbase s + i - lbase s = i by omega]
      obtain ⟨v, hv, hvr⟩ := hcs i hi
      unfold cellEnt
      cases hm : memN offs i with
      | true =>
        obtain ⟨_, hx⟩ := hmemoff i hm
        refine ⟨_, .sl [], hx, rfl, ?_, fun g z hg _ => ?_⟩
        · simp only [VR]; exact ⟨none, 0, rfl, Nat.le_refl _, fun _ => rfl, fun q hq => by cases hq⟩
        · simp only [cond_true, Option.some.injEq] at hg
          unfold γN
          rw [if_pos (by omega)]
      | false =>
        exact ⟨v, nth cs i, hv, rfl, hvr, fun g z hg _ => by simp at hg⟩
    · rw [if_neg hBB] at hB'
      obtain ⟨h1, h2, h3, b, y, h4, h5, h6, h7, h8⟩ := H2.lblk B' n' hB'
      refine ⟨h1, h2, h3, b, y, by rw [if_neg (fun h => hBB h.symm)]; exact h4, h5, by rw [hω b (by rw [h6]; simp)]; exact h6, h7, fun i hi => ?_⟩
      rw [hget, if_neg (by omega), if_neg (by omega)]
      obtain ⟨v, a', g1, g2, g3, g4⟩ := h8 i hi
      refine ⟨v, a', g1, g2, g3, fun g z hg hz => ?_⟩
      have hr : ¬ (gid ≤ g ∧ g < gid + 1000) := fun hr => hU g hr.1 hr.2 (H.used.1 _ g hg)
      rcases alive_new H hU hA hz with ⟨_, k1⟩ | ⟨k1, _⟩
      · exact absurd k1 hr
      · unfold γN
        rw [if_neg hr]
        exact g4 g z hg k1
  · intro g z hg
    exact free_new H hU hA hω (fun b y g' _ hr => hr.of_eq (alloc_old w _ hr.lt)) hg
  · intro b hb
    unfold setO at hb
    split at hb
    · rename_i hbb; subst hbb; exact ⟨.inr H.size, by simp⟩
    · rename_i hbb; exact ⟨(H2.mine b hb).1.of_eq (by unfold setO; rw [if_neg hbb]), (H2.mine b hb).2⟩
  · intro t' g hg
    rw [hget] at hg
    split at hg
    · simp at hg
    · split at hg
      · rename_i hr
        unfold cellEnt at hg
        cases hm : memN offs (t' - lbase s) with
        | true =>
          rw [hm] at hg
          simp only [cond_true, Option.some.injEq] at hg
          have := (hmemoff _ hm).1
          exact .inr (by omega)
        | false => rw [hm] at hg; simp at hg
      · exact .inl (H.used.1 t' g hg)
  · intro g z hg
    rcases alive_new H hU hA hg with ⟨_, h1⟩ | ⟨h1, _⟩
    · exact .inr h1
    · exact .inl (H.used.2 g z h1)

omit [Dr] in
theorem setRow_old (w : World) (b : Nat) (y : Array Value) {k : Nat} (h : k ≠ b) : (w.setRow b y).heap[k]? = w.heap[k]? := setRow_other w b k y h
theorem Gro.setRow {w : World} {b : Nat} {x : Array Value} (_ : Row w b x) (y : Array Value) : Gro w (w.setRow b y) := ⟨by simp [World.setRow], rfl, rfl, rfl, fun _ => by simp [World.setRow]⟩
omit [Dr] in
theorem Row.setRow {w : World} {b : Nat} {x y : Array Value} (h : Row w b x) : Row (w.setRow b y) b y := by
  obtain ⟨e, h⟩ := h
  exact ⟨e, setRow_heap w b x y e _ h⟩

/-- The world after a row of the run's own has been turned where nothing is stable. -/
theorem wf_setRow (H : FR c N U e h a w S β γ lam ω) {b : Nat} {x y : Array Value} (hr : Row w b x) (hy : ∀ o v, S b o = some v → y[o]? = some v) : Wf S (w.setRow b y) := by
  intro b' o v hv
  by_cases hb : b' = b
  · subst hb
    rw [hr.setRow.cell]
    exact hy o v hv
  · rw [cell_of_heap (setRow_old w b y hb)]
    exact H.wf b' o v hv

/-- A store into a local block: n cells from off on, with their new entries L. -/
theorem FR.storeL (H : FR c N U e h a w S β γ lam ω) {B m off n gid b : Nat} {x : Array Value} {vs : List Value} {L : List (Nat × Ent)} {A : List (Nat × Option Nat)} {ent : Nat → Ent}
    (hU : ∀ g, gid ≤ g → g < gid + 1000 → ¬ U g) (hA : NilGroups A gid) (hm : lbSize e.lb B = some m) (hle : off + n ≤ m) (hvs : vs.length = n)
    (hlam : lam B = some b) (hrow : Row w b x) (hL : ∀ t, lookE (L ++ e.sl) t = if B + off ≤ t ∧ t < B + off + n then ent (t - (B + off)) else e.get t)
    (hent : ∀ i, i < n → ∃ v a', vs[i]? = some v ∧ (ent i).v = .val a' ∧ VR S β a' v ∧ (∀ g z, (ent i).g = some g → aliveG (A ++ e.al) g = some z → v = γN γ gid g) ∧ ∀ g, (ent i).g = some g → U g ∨ (gid ≤ g ∧ g < gid + 1000)) (u : Ent) :
    FR c N (fun g => U g ∨ (gid ≤ g ∧ g < gid + 1000)) (e.upd none { ent := u, ls := L, add := A }) h a (w.setRow b (x.toList.take off ++ vs ++ x.toList.drop (off + vs.length)).toArray) S β (γN γ gid) lam ω := by
  obtain ⟨hB1, hB2, hB3, b', x', h4, h5, h6, h7, h8⟩ := H.lblk B m hm
  rw [hlam] at h4
  cases h4
  have hxx : x' = x := by
    obtain ⟨e1, h51⟩ := h5
    obtain ⟨e2, h52⟩ := hrow
    rw [h51] at h52
    simp only [Option.some.injEq, Obj.cells.injEq] at h52
    exact h52.1
  subst hxx
  have hxs : m ≤ x'.size := by
    rcases Nat.eq_zero_or_pos m with h0 | h0
    · omega
    · obtain ⟨v, _, hv, _⟩ := h8 (m - 1) (by omega)
      rcases Nat.lt_or_ge (m - 1) x'.size with h | h
      · omega
      · rw [Array.getElem?_eq_none h] at hv; simp at hv
  have hynew : ∀ i, (x'.toList.take off ++ vs ++ x'.toList.drop (off + vs.length)).toArray[i]? = if off ≤ i ∧ i < off + n then vs[i - off]? else x'[i]? := by
    intro i
    have htl : (x'.toList.take off).length = off := by simp; omega
    simp only [List.getElem?_toArray]
    by_cases hi : i < off
    · rw [List.append_assoc, List.getElem?_append_left (by omega), List.getElem?_take, if_pos hi, if_neg (by omega)]
      simp
    · by_cases hi2 : i < off + n
      · rw [List.append_assoc, List.getElem?_append_right (by omega), htl, List.getElem?_append_left (by omega), if_pos (by omega)]
      · rw [List.getElem?_append_right (by simp; omega), List.getElem?_drop, if_neg (by omega), Array.getElem?_toList]
        congr 1
        simp
        omega
  have hwf : Wf S (w.setRow b (x'.toList.take off ++ vs ++ x'.toList.drop (off + vs.length)).toArray) := wf_setRow H h5 fun o v hv => by rw [h7] at hv; simp at hv
  have hother : ∀ k, ω k ≠ .loc B → (w.setRow b (x'.toList.take off ++ vs ++ x'.toList.drop (off + vs.length)).toArray).heap[k]? = w.heap[k]? := fun k hk => setRow_old w b _ (by rintro rfl; exact hk h6)
  have hget : ∀ t', (e.upd none { ent := u, ls := L, add := A }).get t' = if B + off ≤ t' ∧ t' < B + off + n then ent (t' - (B + off)) else e.get t' := by
    intro t'
    rw [get_upd]
    simp only [reduceCtorEq, if_false]
    exact hL t'
  have hal : (e.upd none { ent := u, ls := L, add := A }).al = A ++ e.al := rfl
  have hlb : (e.upd none { ent := u, ls := L, add := A }).lb = e.lb := rfl
  refine ⟨hwf, H.gro.trans (Gro.setRow h5 _), fun k hk hE => ?_, H.le, H.ext, H.hlen, ?_, H.tsz, ?_, ?_, ?_, ?_, ?_, ?_, ?_⟩
  · have := H.keep k hk hE
    have hkb : k ≠ b := by
      rintro rfl
      have := (H.mine k (by rw [h6]; simp)).1.low
      rcases this with h | h
      · exact hE h
      · omega
    rw [setRow_old w b _ hkb]
    exact this
  · intro l cs' hl hne
    obtain ⟨k, y, h1, h2, h3, h4⟩ := H.heap l cs' hl hne
    exact ⟨k, y, h1, h2.of_eq (hother k (by rw [h3]; simp)), h3, h4⟩
  · intro t' ht'
    rw [hget, if_neg (by omega)]
    exact H.slots t' ht'
  · intro t' g z ht' hg hz
    rw [hget, if_neg (by omega)] at hg
    have hr : ¬ (gid ≤ g ∧ g < gid + 1000) := fun hr => hU g hr.1 hr.2 (H.used.1 t' g hg)
    rcases alive_new H hU hA hz with ⟨_, h1⟩ | ⟨h1, _⟩
    · exact absurd h1 hr
    · unfold γN
      rw [if_neg hr]
      exact H.grps t' g z ht' hg h1
  · intro B' n' hB'
    rw [hlb] at hB'
    obtain ⟨k1, k2, k3, b', y, k4, k5, k6, k7, k8⟩ := H.lblk B' n' hB'
    by_cases hBB : B' = B
    · subst hBB
      rw [hm] at hB'
      cases hB'
      refine ⟨k1, k2, k3, b, _, hlam, h5.setRow, h6, h7, fun i hi => ?_⟩
      rw [hget, hynew]
      by_cases hin : off ≤ i ∧ i < off + n
      · rw [if_pos hin, if_pos (by omega)]
        obtain ⟨v, a', g1, g2, g3, g4, _⟩ := hent (i - off) (by omega)
        have hix : B' + i - (B' + off) = i - off := by omega
        exact ⟨v, a', g1, by rw [hix]; exact g2, g3, fun g z hg hz => g4 g z (by rw [hix] at hg; exact hg) hz⟩
      · rw [if_neg hin, if_neg (by omega)]
        obtain ⟨v, a', g1, g2, g3, g4⟩ := h8 i hi
        refine ⟨v, a', g1, g2, g3, fun g z hg hz => ?_⟩
        have hr : ¬ (gid ≤ g ∧ g < gid + 1000) := fun hr => hU g hr.1 hr.2 (H.used.1 _ g hg)
        rcases alive_new H hU hA hz with ⟨_, h1⟩ | ⟨h1, _⟩
        · exact absurd h1 hr
        · unfold γN
          rw [if_neg hr]
          exact g4 g z hg h1
    · refine ⟨k1, k2, k3, b', y, k4, k5.of_eq (hother b' (by rw [k6]; simp [hBB])), k6, k7, fun i hi => ?_⟩
      rw [hget, if_neg (by omega)]
      obtain ⟨v, a', g1, g2, g3, g4⟩ := k8 i hi
      refine ⟨v, a', g1, g2, g3, fun g z hg hz => ?_⟩
      have hr : ¬ (gid ≤ g ∧ g < gid + 1000) := fun hr => hU g hr.1 hr.2 (H.used.1 _ g hg)
      rcases alive_new H hU hA hz with ⟨_, h1⟩ | ⟨h1, _⟩
      · exact absurd h1 hr
      · unfold γN
        rw [if_neg hr]
        exact g4 g z hg h1
  · intro g z hg
    exact free_new H hU hA (fun _ _ => rfl) (fun k y g' hk hr => hr.of_eq (hother k (by rw [hk]; simp))) hg
  · intro k hk
    exact ⟨(H.mine k hk).1, by simpa using (H.mine k hk).2⟩
  · intro t' g hg
    rw [hget] at hg
    split at hg
    · obtain ⟨_, _, _, _, _, _, k5⟩ := hent (t' - (B + off)) (by omega)
      exact k5 g hg
    · exact .inl (H.used.1 t' g hg)
  · intro g z hg
    rcases alive_new H hU hA hg with ⟨_, h1⟩ | ⟨h1, _⟩
    · exact .inr h1
    · exact .inl (H.used.2 g z h1)
end
end Go.Av

/- Local memory that becomes immutable; the abstract heap. No condition. -/
namespace Go.Av
variable [Dr]

section
variable {c : Entry} {N : Nat} {U : Nat → Prop} {e : Env} {h : Hp} {a : Act} {w : World} {S : Stab} {β : List Blk} {γ : Nat → Value} {lam : Nat → Option Nat} {ω : Nat → Owner}

omit [Dr] in
theorem Row.inj {b : Nat} {x y : Array Value} (h : Row w b x) (g : Row w b y) : x = y := by
  obtain ⟨e1, h1⟩ := h
  obtain ⟨e2, h2⟩ := g
  rw [h1] at h2
  simp only [Option.some.injEq, Obj.cells.injEq] at h2
  exact h2.1

/-- A store of a whole local block, which becomes immutable. -/
theorem FR.storeS (H : FR c N U e h a w S β γ lam ω) {B m p b : Nat} {x : Array Value} {vs : List Value} {cs : List AV} (hp : p < N) (hm : lbSize e.lb B = some m) (hvs : vs.length = m)
    (hlam : lam B = some b) (hrow : Row w b x) (hcs : VRs S β cs vs) (hslot : a.tmps.getD p undef = .pointer (some ⟨b, 0, none⟩)) (u : Ent) :
    ∃ S' ω', S.le S' ∧ FR c N U (e.upd none { ent := u, ls := [(p, ⟨.val (.ip cs), none⟩)], unlb := some B }) h a (w.setRow b (vs ++ x.toList.drop vs.length).toArray) S' β γ lam ω' := by
  obtain ⟨hB1, hB2, hB3, b', x', h4, h5, h6, h7, h8⟩ := H.lblk B m hm
  rw [hlam] at h4
  cases h4
  cases h5.inj hrow
  have hN := H.tsz.2
  have hy : ∀ i, i < m → (vs ++ x.toList.drop vs.length).toArray[i]? = vs[i]? := fun i hi => by
    simp only [List.getElem?_toArray]
    rw [List.getElem?_append_left (by omega)]
  have hle : S.le (S.withRowTo b m (vs ++ x.toList.drop vs.length).toArray) := fun k o v hv => by
    unfold Stab.withRowTo
    split
    · rename_i hk; subst hk; rw [h7] at hv; simp at hv
    · exact hv
  have hSb : ∀ o v, vs[o]? = some v → S.withRowTo b m (vs ++ x.toList.drop vs.length).toArray b o = some v := fun o v hv => by
    have ho : o < m := by
      rcases Nat.lt_or_ge o vs.length with h | h
      · omega
      · rw [List.getElem?_eq_none h] at hv; simp at hv
    unfold Stab.withRowTo
    rw [if_pos rfl, if_pos ho, hy o ho, hv]
  have hSo : ∀ k, k ≠ b → ∀ o, S.withRowTo b m (vs ++ x.toList.drop vs.length).toArray k o = S k o := fun k hk o => by
    unfold Stab.withRowTo; rw [if_neg hk]
  have hωb : ∀ k, ω k ≠ .loc B → k ≠ b := fun k hk => by rintro rfl; exact hk h6
  have hother : ∀ k, ω k ≠ .loc B → (w.setRow b (vs ++ x.toList.drop vs.length).toArray).heap[k]? = w.heap[k]? := fun k hk => setRow_old w b _ (hωb k hk)
  have hω : ∀ k, ω k ≠ .no → ω k ≠ .loc B → setO ω b .no k = ω k := fun k _ hk => by unfold setO; rw [if_neg (hωb k hk)]
  have hget : ∀ t', (e.upd none { ent := u, ls := [(p, ⟨.val (.ip cs), none⟩)], unlb := some B }).get t' = if p = t' then ⟨.val (.ip cs), none⟩ else e.get t' := by
    intro t'
    rw [get_upd]
    simp only [reduceCtorEq, if_false, List.cons_append, List.nil_append, lookE_cons]
    rfl
  have hlb : (e.upd none { ent := u, ls := [(p, ⟨.val (.ip cs), none⟩)], unlb := some B }).lb = dropB e.lb B := rfl
  have hal : (e.upd none { ent := u, ls := [(p, ⟨.val (.ip cs), none⟩)], unlb := some B }).al = e.al := rfl
  refine ⟨_, setO ω b .no, hle, ?_, H.gro.trans (Gro.setRow hrow _), fun k hk hE => ?_, Stab.le_trans H.le hle, H.ext, H.hlen, ?_, H.tsz, ?_, ?_, ?_, ?_, ?_, ?_⟩
  · intro k o v hv
    by_cases hk : k = b
    · subst hk
      rw [hrow.setRow.cell]
      unfold Stab.withRowTo at hv
      rw [if_pos rfl] at hv
      split at hv
      · exact hv
      · simp at hv
    · rw [hSo k hk] at hv
      rw [cell_of_heap (setRow_old w b _ hk)]
      exact H.wf k o v hv
  · have hkb : k ≠ b := by
      rintro rfl
      have := (H.mine k (by rw [h6]; simp)).1.low
      rcases this with h | h
      · exact hE h
      · omega
    have := H.keep k hk hE
    exact ⟨by rw [setRow_old w b _ hkb]; exact this.1, fun o => by rw [hSo k hkb]; exact this.2 o⟩
  · intro l cs' hl hne
    obtain ⟨k, y, h1, h2, h3, h4, h5⟩ := H.heap l cs' hl hne
    have hk : ω k ≠ .loc B := by rw [h3]; simp
    exact ⟨k, y, h1, h2.of_eq (hother k hk), by rw [hω k (by rw [h3]; simp) hk]; exact h3, h4.mono hle (Ext.refl β), fun o => by rw [hSo k (hωb k hk)]; exact h5 o⟩
  · intro t' ht'
    rw [hget]
    split
    · rename_i hpt
      subst hpt
      rw [hslot]
      simp only [SlotR, VR]
      exact ⟨b, 0, vs, rfl, hcs.mono hle (Ext.refl β), fun j v hj => by rw [Nat.zero_add]; exact hSb j v hj⟩
    · have := H.slots t' ht'
      cases hv : (e.get t').v with
      | val av => rw [hv] at this; exact VR.mono hle (Ext.refl β) _ _ this
      | loc B off => rw [hv] at this; exact this
  · intro t' g z ht' hg hz
    rw [hget] at hg
    split at hg
    · simp at hg
    · exact H.grps t' g z ht' hg hz
  · intro B' n' hB'
    rw [hlb, lbSize_drop] at hB'
    split at hB'
    · simp at hB'
    · rename_i hBB
      obtain ⟨k1, k2, k3, b', y, k4, k5, k6, k7, k8⟩ := H.lblk B' n' hB'
      have hk : ω b' ≠ .loc B := by rw [k6]; simp only [ne_eq, Owner.loc.injEq]; exact fun h => hBB h.symm
      refine ⟨k1, k2, k3, b', y, k4, k5.of_eq (hother b' hk), by rw [hω b' (by rw [k6]; simp) hk]; exact k6, fun o => by rw [hSo b' (hωb b' hk)]; exact k7 o, fun i hi => ?_⟩
      rw [hget, if_neg (by omega)]
      obtain ⟨v, a', g1, g2, g3, g4⟩ := k8 i hi
      exact ⟨v, a', g1, g2, VR.mono hle (Ext.refl β) _ _ g3, g4⟩
  · intro g z hg
    obtain ⟨a', len, cap, g1, g2, g3, g4⟩ := H.free g z hg
    refine ⟨a', len, cap, g1, g2, g3, g4.imp id ?_⟩
    rintro ⟨sz, k, off, y, k1, k2, k3, k4, k5, k6⟩
    have hk : ω k ≠ .loc B := by rw [k5]; simp
    exact ⟨sz, k, off, y, k1, k2, k3.of_eq (hother k hk), k4, by rw [hω k (by rw [k5]; simp) hk]; exact k5, fun o ho => by rw [hSo k (hωb k hk)]; exact k6 o ho⟩
  · intro k hk
    unfold setO at hk
    split at hk
    · exact absurd rfl hk
    · rename_i hkk; exact ⟨(H.mine k hk).1.of_eq (by unfold setO; rw [if_neg hkk]), by simpa using (H.mine k hk).2⟩
  · refine ⟨fun t' g hg => ?_, H.used.2⟩
    rw [hget] at hg
    split at hg
    · simp at hg
    · exact H.used.1 t' g hg

/-- A new row of the heap. -/
theorem FR.newH (H : FR c N U e h a w S β γ lam ω) (x : Array Value) (t : TypeId) {cs : List AV} (hcs : VRs S β cs (x.toList.take cs.length)) :
    ∃ ω', FR c N U e (h ++ [cs]) a (w.alloc (.cells x t)) S (β ++ [(w.heap.size, x.size)]) γ lam ω' ∧ (β ++ [(w.heap.size, x.size)])[h.length]? = some (w.heap.size, x.size) ∧ Ext β (β ++ [(w.heap.size, x.size)]) := by
  have H2 := H.alloc x t
  have hext : Ext β (β ++ [(w.heap.size, x.size)]) := fun l b hb => by
    have : l < β.length := by
      rcases Nat.lt_or_ge l β.length with h | h
      · exact h
      · rw [List.getElem?_eq_none h] at hb; simp at hb
    rw [List.getElem?_append_left this]; exact hb
  have hnew : (β ++ [(w.heap.size, x.size)])[h.length]? = some (w.heap.size, x.size) := by rw [← H.hlen]; simp
  have hωn : ω w.heap.size = .no := by
    cases ho : ω w.heap.size with
    | no => rfl
    | _ => have := (H.mine w.heap.size (by rw [ho]; simp)).2; omega
  have hω : ∀ b, ω b ≠ .no → setO ω w.heap.size (.heap h.length) b = ω b := fun b hb => by
    unfold setO; rw [if_neg]; rintro rfl; exact hb hωn
  refine ⟨setO ω w.heap.size (.heap h.length), ⟨H2.wf, H2.gro, H2.keep, H2.le, Ext.trans H2.ext hext, by simp [H.hlen], ?_, H2.tsz, ?_, H2.grps, ?_, ?_, ?_, H2.used⟩, hnew, hext⟩
  · intro l cs' hl hne
    rcases Nat.lt_or_ge l h.length with hlt | hge
    · rw [List.getElem?_append_left hlt] at hl
      obtain ⟨b, y, h1, h2, h3, h4, h5⟩ := H2.heap l cs' hl hne
      exact ⟨b, y, hext l _ h1, h2, by rw [hω b (by rw [h3]; simp)]; exact h3, h4.mono (Stab.le_refl S) hext, h5⟩
    · rw [List.getElem?_append_right hge] at hl
      have hlz : l = h.length := by
        rcases Nat.eq_zero_or_pos (l - h.length) with h0 | h0
        · omega
        · rw [List.getElem?_eq_none (by simp; omega)] at hl; simp at hl
      subst hlz
      simp only [Nat.sub_self, List.getElem?_cons_zero, Option.some.injEq] at hl
      subst hl
      exact ⟨w.heap.size, x, hnew, Row.new w x t, by simp [setO], hcs.mono (Stab.le_refl S) hext, fun o => H.wf.none (Nat.le_refl _) o⟩
  · intro t' ht'
    have := H2.slots t' ht'
    cases hv : (e.get t').v with
    | val av => rw [hv] at this; exact VR.mono (Stab.le_refl S) hext _ _ this
    | loc B off => rw [hv] at this; exact this
  · intro B n hB
    obtain ⟨h1, h2, h3, b, y, h4, h5, h6, h7, h8⟩ := H2.lblk B n hB
    refine ⟨h1, h2, h3, b, y, h4, h5, by rw [hω b (by rw [h6]; simp)]; exact h6, h7, fun i hi => ?_⟩
    obtain ⟨v, a', g1, g2, g3, g4⟩ := h8 i hi
    exact ⟨v, a', g1, g2, VR.mono (Stab.le_refl S) hext _ _ g3, g4⟩
  · intro g z hg
    obtain ⟨a', len, cap, g1, g2, g3, g4⟩ := H2.free g z hg
    refine ⟨a', len, cap, g1, g2, g3, g4.imp id ?_⟩
    rintro ⟨sz, k, off, y, k1, k2, k3, k4, k5, k6⟩
    exact ⟨sz, k, off, y, k1, k2, k3, k4, by rw [hω k (by rw [k5]; simp)]; exact k5, k6⟩
  · intro b hb
    unfold setO at hb
    split at hb
    · rename_i hbb; subst hbb; exact ⟨.inr H.size, by simp⟩
    · rename_i hbb; exact ⟨(H2.mine b hb).1.of_eq (by unfold setO; rw [if_neg hbb]), (H2.mine b hb).2⟩

/-- Row b, that of l, becomes the row b' (the same one or a new one) of l', and l is no more; or stays that of l. -/
theorem FR.turnH (H : FR c N U e h a w S β γ lam ω) {l b : Nat} {cs cs' : List AV} {x y : Array Value} (hl : h[l]? = some cs) (hne : cs ≠ []) (hb : ∃ n, β[l]? = some (b, n)) (hrow : Row w b x)
    (hys : y.size = x.size) (hcs : VRs S β cs' (y.toList.take cs'.length)) :
    FR c N U e (h.set l cs') a (w.setRow b y) S β γ lam ω := by
  obtain ⟨b', x', h1, h2, h3, h4, h5⟩ := H.heap l cs hl hne
  obtain ⟨n, hb⟩ := hb
  rw [hb] at h1; cases h1
  cases h2.inj hrow
  have hlt : l < h.length := by
    rcases Nat.lt_or_ge l h.length with h' | h'
    · exact h'
    · rw [List.getElem?_eq_none h'] at hl; simp at hl
  have hωb : ∀ k, ω k ≠ .heap l → k ≠ b := fun k hk => by rintro rfl; exact hk h3
  have hother : ∀ k, ω k ≠ .heap l → (w.setRow b y).heap[k]? = w.heap[k]? := fun k hk => setRow_old w b _ (hωb k hk)
  refine ⟨wf_setRow H hrow fun o v hv => by rw [h5] at hv; simp at hv, H.gro.trans (Gro.setRow hrow _), fun k hk hE => ?_, H.le, H.ext, by simp [H.hlen], ?_, H.tsz, H.slots, H.grps, ?_, ?_, fun k hk => ⟨(H.mine k hk).1, by simpa using (H.mine k hk).2⟩, H.used⟩
  · have hkb : k ≠ b := by
      rintro rfl
      have := (H.mine k (by rw [h3]; simp)).1.low
      rcases this with h | h
      · exact hE h
      · omega
    have := H.keep k hk hE
    exact ⟨by rw [setRow_old w b _ hkb]; exact this.1, this.2⟩
  · intro j ds hj hd
    rw [List.getElem?_set] at hj
    split at hj
    · rename_i hlj
      subst hlj
      simp only [hlt, if_true, Option.some.injEq] at hj; subst hj
      exact ⟨b, y, by rw [hb, hys], hrow.setRow, h3, hcs, h5⟩
    · rename_i hlj
      obtain ⟨k, z, k1, k2, k3, k4, k5⟩ := H.heap j ds hj hd
      exact ⟨k, z, k1, k2.of_eq (hother k (by rw [k3]; simp only [ne_eq, Owner.heap.injEq]; exact fun h => hlj h.symm)), k3, k4, k5⟩
  · intro B n hB
    obtain ⟨k1, k2, k3, k, z, k4, k5, k6, k7, k8⟩ := H.lblk B n hB
    exact ⟨k1, k2, k3, k, z, k4, k5.of_eq (hother k (by rw [k6]; simp)), k6, k7, k8⟩
  · intro g z hg
    obtain ⟨a', len, cap, g1, g2, g3, g4⟩ := H.free g z hg
    refine ⟨a', len, cap, g1, g2, g3, g4.imp id ?_⟩
    rintro ⟨sz, k, off, z', k1, k2, k3, k4, k5, k6⟩
    exact ⟨sz, k, off, z', k1, k2, k3.of_eq (hother k (by rw [k5]; simp)), k4, k5, k6⟩

/-- The row of l is no more seen. -/
theorem FR.killH (H : FR c N U e h a w S β γ lam ω) (l : Nat) : FR c N U e (h.set l []) a w S β γ lam ω := by
  refine ⟨H.wf, H.gro, H.keep, H.le, H.ext, by simp [H.hlen], ?_, H.tsz, H.slots, H.grps, H.lblk, H.free, H.mine, H.used⟩
  intro j ds hj hd
  rw [List.getElem?_set] at hj
  split at hj
  · split at hj
    · simp only [Option.some.injEq] at hj; exact absurd hj.symm hd
    · simp at hj
  · exact H.heap j ds hj hd

/-- The row of l becomes that of a new one. -/
theorem FR.moveH (H : FR c N U e h a w S β γ lam ω) {l b : Nat} {cs cs' : List AV} {x : Array Value} (hl : h[l]? = some cs) (hne : cs ≠ []) (hb : ∃ n, β[l]? = some (b, n)) (hrow : Row w b x)
    (hcs : VRs S β cs' (x.toList.take cs'.length)) :
    ∃ ω', FR c N U e (h.set l [] ++ [cs']) a w S (β ++ [(b, x.size)]) γ lam ω' ∧ (β ++ [(b, x.size)])[h.length]? = some (b, x.size) ∧ Ext β (β ++ [(b, x.size)]) := by
  obtain ⟨b', x', h1, h2, h3, h4, h5⟩ := H.heap l cs hl hne
  obtain ⟨n, hb⟩ := hb
  rw [hb] at h1; cases h1
  cases h2.inj hrow
  have hlt : l < h.length := by
    rcases Nat.lt_or_ge l h.length with h' | h'
    · exact h'
    · rw [List.getElem?_eq_none h'] at hl; simp at hl
  have hext : Ext β (β ++ [(b, x.size)]) := fun l b hb => by
    have : l < β.length := by
      rcases Nat.lt_or_ge l β.length with h | h
      · exact h
      · rw [List.getElem?_eq_none h] at hb; simp at hb
    rw [List.getElem?_append_left this]; exact hb
  have hnew : (β ++ [(b, x.size)])[h.length]? = some (b, x.size) := by rw [← H.hlen]; simp
  have hωb : ∀ k, ω k ≠ .heap l → k ≠ b := fun k hk => by rintro rfl; exact hk h3
  have hω : ∀ k, ω k ≠ .heap l → setO ω b (.heap h.length) k = ω k := fun k hk => by unfold setO; rw [if_neg (hωb k hk)]
  refine ⟨setO ω b (.heap h.length), ⟨H.wf, H.gro, H.keep, H.le, Ext.trans H.ext hext, by simp [H.hlen], ?_, H.tsz, ?_, H.grps, ?_, ?_, ?_, H.used⟩, hnew, hext⟩
  · intro j ds hj hd
    rcases Nat.lt_or_ge j h.length with hlj | hge
    · rw [List.getElem?_append_left (by simpa using hlj), List.getElem?_set] at hj
      split at hj
      · rename_i hlj2
        subst hlj2
        simp only [hlt, if_true, Option.some.injEq] at hj; exact absurd hj.symm hd
      · rename_i hne'
        obtain ⟨k, z, k1, k2, k3, k4, k5⟩ := H.heap j ds hj hd
        exact ⟨k, z, hext j _ k1, k2, by rw [hω k (by rw [k3]; simp only [ne_eq, Owner.heap.injEq]; exact fun h => hne' h.symm)]; exact k3, k4.mono (Stab.le_refl S) hext, k5⟩
    · rw [List.getElem?_append_right (by simpa using hge)] at hj
      have hjz : j = h.length := by
        rcases Nat.eq_zero_or_pos (j - h.length) with h0 | h0
        · omega
        · rw [List.getElem?_eq_none (by simp; omega)] at hj; simp at hj
      subst hjz
      simp only [List.length_set, Nat.sub_self, List.getElem?_cons_zero, Option.some.injEq] at hj
      subst hj
      exact ⟨b, x, hnew, hrow, by simp [setO], hcs.mono (Stab.le_refl S) hext, h5⟩
  · intro t' ht'
    have := H.slots t' ht'
    cases hv : (e.get t').v with
    | val av => rw [hv] at this; exact VR.mono (Stab.le_refl S) hext _ _ this
    | loc B off => rw [hv] at this; exact this
  · intro B n hB
    obtain ⟨k1, k2, k3, k, z, k4, k5, k6, k7, k8⟩ := H.lblk B n hB
    refine ⟨k1, k2, k3, k, z, k4, k5, by rw [hω k (by rw [k6]; simp)]; exact k6, k7, fun i hi => ?_⟩
    obtain ⟨v, a', g1, g2, g3, g4⟩ := k8 i hi
    exact ⟨v, a', g1, g2, VR.mono (Stab.le_refl S) hext _ _ g3, g4⟩
  · intro g z hg
    obtain ⟨a', len, cap, g1, g2, g3, g4⟩ := H.free g z hg
    refine ⟨a', len, cap, g1, g2, g3, g4.imp id ?_⟩
    rintro ⟨sz, k, off, y, k1, k2, k3, k4, k5, k6⟩
    exact ⟨sz, k, off, y, k1, k2, k3, k4, by rw [hω k (by rw [k5]; simp)]; exact k5, k6⟩
  · intro k hk
    unfold setO at hk
    split at hk
    · rename_i hkk; subst hkk; exact ⟨(H.mine k (by rw [h3]; simp)).1.of_not (fun g => by unfold setO; rw [if_pos rfl]; simp), (H.mine k (by rw [h3]; simp)).2⟩
    · rename_i hkk; exact ⟨(H.mine k hk).1.of_eq (by unfold setO; rw [if_neg hkk]), (H.mine k hk).2⟩
end
end Go.Av
