/- types.lookup, as the evaluator knows it. No condition. -/
import Derived.Test.YteemeakjlfnapaaGreatDoorGood
import Derived.Test.YteemeakjlfnapaaGreatDoorLookC
import Derived.Test.YteemeakjlfnapaaGreatDoorLd
namespace Go.Proofs.YteemeakjlfnapaaGreatDoor
open Go Go.Av Go.RowKit
set_option maxRecDepth 100000
def FldR (S : Stab) (β : List Blk) (y : List UInt8 × Int × List AV) (z : Row3) : Prop := z.1.data.toList = y.1 ∧ z.2.1 = y.2.1 ∧ VR S β (.sl y.2.2) z.f
def FldsR (S : Stab) (β : List Blk) : List (List UInt8 × Int × List AV) → List Row3 → Prop
  | [], zs => zs = []
  | y :: l, zs => ∃ z r, zs = z :: r ∧ FldR S β y z ∧ FldsR S β l r
theorem FldsR.length {S : Stab} {β : List Blk} : {l : List (List UInt8 × Int × List AV)} → {zs : List Row3} → FldsR S β l zs → zs.length = l.length
  | [], _, h => by simp only [FldsR] at h; simp [h]
  | y :: l, zs, h => by
    simp only [FldsR] at h
    obtain ⟨z, r, rfl, _, h⟩ := h
    simp [FldsR.length h]
theorem fldOf_inv {e : AV} {y : List UInt8 × Int × List AV} (h : fldOf e = some y) : e = .agg [.str y.1, .int .i64 y.2.1, .sl y.2.2] := by
  unfold fldOf at h
  split at h
  · cases h; rfl
  · cases h
theorem els3 {S : Stab} {β : List Blk} {b sz : Nat} : (es : List AV) → (off : Nat) → (l : List (List UInt8 × Int × List AV)) → ElsAt S β es b off sz → fldsOf es = some l →
    ∃ zs : List Row3, FldsR S β l zs ∧ ∀ j, j < zs.length → S b (off + j * 3) = some (.string (zs[j]?.getD default).1) ∧ S b (off + j * 3 + 1) = some (zs[j]?.getD default).k ∧ S b (off + j * 3 + 2) = some (zs[j]?.getD default).f
  | [], off, l, _, h => by
    simp only [fldsOf, Option.some.injEq] at h
    subst h
    exact ⟨[], rfl, fun j hj => by simp at hj⟩
  | e :: es, off, l, he, h => by
    simp only [fldsOf] at h
    cases h1 : fldOf e with
    | none => rw [h1] at h; cases h
    | some y =>
      cases h2 : fldsOf es with
      | none => rw [h1, h2] at h; cases h
      | some l' =>
        rw [h1, h2] at h
        simp only [Option.some.injEq] at h
        subst h
        simp only [ElsAt] at he
        obtain ⟨⟨v, hv, hs, hc⟩, he⟩ := he
        have := fldOf_inv h1
        subst this
        simp only [VR, VRs] at hv
        obtain ⟨vs, rfl, _, _, rfl, ⟨x, rfl, hx⟩, _, _, rfl, rfl, v3, _, rfl, hv3, rfl⟩ := hv
        obtain ⟨p, cap, hp, hq1, hq2, hq3⟩ := hv3
        subst hp
        have hsz : sz = 3 := by rw [← hs]; rfl
        subst hsz
        obtain ⟨zs, hR, hZ⟩ := els3 es (off + 3) l' he h2
        have c0 := hc 0 _ rfl
        have c1 := hc 1 _ rfl
        have c2 := hc 2 _ rfl
        refine ⟨(x, y.2.1, (p, y.2.2.length, cap)) :: zs, ⟨_, _, rfl, ⟨hx, rfl, by simp only [Row3.f, VR]; exact ⟨p, cap, rfl, hq1, hq2, hq3⟩⟩, hR⟩, fun j hj => ?_⟩
        cases j with
        | zero => exact ⟨by simpa using c0, by simpa [Row3.k] using c1, by simpa [Row3.f] using c2⟩
        | succ j =>
          have := hZ j (by simpa using hj)
          rw [show off + 3 + j * 3 = off + (j + 1) * 3 by omega] at this
          simpa using this
theorem latest_lastF {S : Stab} {β : List Blk} {x : ByteArray} {name : List UInt8} (hx : x.data.toList = name) : {l : List (List UInt8 × Int × List AV)} → {zs : List Row3} → FldsR S β l zs →
    (lastF (fun z => z.1 == name) l = none ∧ lastF (fun z : Row3 => decide (z.1 = x)) zs = none) ∨ ∃ y z, lastF (fun z => z.1 == name) l = some y ∧ lastF (fun z : Row3 => decide (z.1 = x)) zs = some z ∧ FldR S β y z
  | [], zs, h => by simp only [FldsR] at h; subst h; exact .inl ⟨rfl, rfl⟩
  | y :: l, zs, h => by
    simp only [FldsR] at h
    obtain ⟨z, r, rfl, hz, h⟩ := h
    rcases latest_lastF hx h with ⟨h1, h2⟩ | ⟨y', z', h1, h2, h3⟩
    · have he : (y.1 == name) = decide (z.1 = x) := by
        rw [← hz.1, ← hx]
        by_cases h : z.1 = x
        · subst h; simp
        · have h' : z.1.data.toList ≠ x.data.toList := fun h' => h (ByteArray.ext (Array.ext' h'))
          rw [decide_eq_false h]
          exact beq_eq_false_iff_ne.2 h'
      simp only [lastF, h1, h2, he]
      cases decide (z.1 = x) with
      | true => exact .inr ⟨y, z, rfl, rfl, hz⟩
      | false => exact .inl ⟨rfl, rfl⟩
    · simp only [lastF, h1, h2]
      exact .inr ⟨_, _, rfl, rfl, h3⟩
theorem oth181 (call : FuncId → List AV → M AV) (args : List AV) (h : Hp) (S : Stab) (β : List Blk) (w : World) (vs : List Value) (hr : lookupE call args h ≠ .fail) (hg : GOK β h w) (hw : Wf S w) (hh : HeapX S β w h) (hv : VRs S β args vs) :
    Calls Tryz.prog 181 vs.toArray w (CPost none S β h w (lookupE call args h)) := by
  unfold lookupE at hr ⊢
  split at hr
  · rename_i es name
    cases hl : fldsOf es with
    | none => rw [hl] at hr; exact absurd rfl hr
    | some l =>
      rw [hl] at hr
      simp only at hr ⊢
      cases hc : decide (l.length ≤ 1000000000) with
      | false => rw [hc] at hr; exact absurd rfl hr
      | true =>
        simp only [cond_true]
        simp only [VRs, VR] at hv
        obtain ⟨_, _, rfl, ⟨a, cap, rfl, hle, hnil, hq⟩, _, _, rfl, ⟨x, rfl, hx⟩, rfl⟩ := hv
        have hlen : ∀ (es : List AV) (l : List (List UInt8 × Int × List AV)), fldsOf es = some l → l.length = es.length := by
          intro es
          induction es with
          | nil => intro l h; simp only [fldsOf, Option.some.injEq] at h; subst h; rfl
          | cons e es ih =>
            intro l h
            simp only [fldsOf] at h
            split at h
            · rename_i h2
              cases h
              simp [ih _ h2]
            · cases h
        have hll := hlen es l hl
        have hz : ∃ zs : List Row3, FldsR S β l zs ∧ Flds3 w.heap.size w (.slice a zs.length cap) zs := by
          cases es with
          | nil =>
            simp only [fldsOf, Option.some.injEq] at hl
            subst hl
            exact ⟨[], rfl, .inl ⟨rfl, a, cap, rfl⟩⟩
          | cons e es =>
            cases a with
            | none => have := hnil rfl; subst this; simp at hle
            | some q =>
              obtain ⟨hs, sz, hE⟩ := hq q rfl
              have hcap : 0 < cap := by simp at hle; omega
              obtain ⟨b, off, sp⟩ := q
              have hs' : sp = none := hs hcap
              subst hs'
              obtain ⟨zs, hR, hZ⟩ := els3 (e :: es) off l hE hl
              refine ⟨zs, hR, .inr ⟨b, off, cap, rfl, ?_, fun j hj => ?_⟩⟩
              · have h0 := (hZ 0 (by rw [hR.length, hll]; simp)).1
                exact hw.lt h0
              · obtain ⟨h1, h2, h3⟩ := hZ j hj
                exact ⟨hw _ _ _ h1, hw _ _ _ h2, hw _ _ _ h3⟩
        obtain ⟨zs, hR, hF⟩ := hz
        have hzl := hR.length
        rw [show es.length = zs.length by omega]
        refine (callsIn_wide (n := 3)).1 ((look_in Fence.wide 3 trivial trivial trivial rfl (by omega) a zs.length cap x zs (by have := of_decide_eq_true hc; omega) w hF).mono ?_)
        rintro e w' ⟨rfl, hb⟩
        refine cpost_below hw hh hb noDr ?_
        unfold lookV lookA2 latest
        rw [← lastF_reverse]
        rcases latest_lastF hx hR with ⟨h1, h2⟩ | ⟨y, z, h1, h2, h3⟩
        · rw [h1, h2]
          simp only [VR, VRs]
          exact ⟨_, rfl, _, _, rfl, ⟨_, rfl, _, _, rfl, rfl, _, _, rfl, ⟨none, 0, rfl, Nat.le_refl _, fun _ => rfl, fun q hq => by cases hq⟩, rfl⟩, _, _, rfl, rfl, rfl⟩
        · rw [h1, h2]
          obtain ⟨_, h4, h5⟩ := h3
          simp only [VR, VRs]
          exact ⟨_, rfl, _, _, rfl, ⟨_, rfl, _, _, rfl, by rw [← h4]; rfl, _, _, rfl, h5, rfl⟩, _, _, rfl, rfl, rfl⟩
  · exact absurd rfl hr
end Go.Proofs.YteemeakjlfnapaaGreatDoor
