/- slices.SortedFunc over the keys of a map. No condition. -/
import Derived.Test.YtpnonheegflllaaAppC
import Derived.Test.YtpnonheegflllaaCmp
namespace Go.Proofs.Ytpnonheegflllaa
open Go Go.Av Go.Av.Ap Go.RowKit Go.Shelf Go.Sort
attribute [local go_sem] Oper.semAt_some
set_option maxRecDepth 100000
theorem col_in (F : Fence) (n : Nat) (h2 : F.fn 44) (h3 : F.fn 53) (hro : F.round = none) (hn : 4 ≤ n) (g : Nat) (lb : Array Value) (hFg : F.fn g) (eg : ∀ args w, (callFunc g args).run Try.prog w = .ok (.enter g args) w) (S Sp : List Row2 → Prop) (N : Nat) (hN : N ≤ 1000000) (w : World)
    (hseq : SeqStopsK F (n - 1 - 1) Try.prog g lb (fun x : Row2 => #[row2 x]) KeepsWalks S Sp N w) :
    CallsIn F n Try.prog 44 #[.func (.func g) #[] lb] w fun e w' => ∃ v ss, e = .returned v ∧ S ss ∧ w'.ownsRow w.heap.size 24 2 v ss.length (ss.flatMap cells2) ∧ (v = .slice none 0 0 ↔ ss = []) ∧ Below w.heap.size w w' := by
  have h1 : 1 ≤ n := by omega
  refine callsIn_of_wp Try.func44 rfl h2 ?_ hro
  simp only [Try.ntmps44, List.size_toArray, List.length_cons, List.length_nil, Nat.reduceAdd, Nat.reduceSub, Array.replicate_succ, Array.replicate_zero, List.push_toArray, List.append_toArray, List.nil_append, List.cons_append]
  gi_wp2_with (gi_at_call 53; refine (app_in F (n - 1) h3 hro (by omega) g lb hFg eg S Sp N hN _ hseq).mono ?_; rintro e w' ⟨v, ss, rfl, hS, hrow, hnil, hb⟩)
  go_ret
  exact ⟨v, ss, rfl, hS, hrow, hnil, hb⟩
def refOf (x : Row2) : Ref := (x.1.data.toList, x.2.data.toList)
theorem evRef_of (x : Row2) : evRef (refOf x) = cells2 x := by
  simp only [evRef, refOf, cells2, str_eq (rfl : x.1.data.toList = _), str_eq (rfl : x.2.data.toList = _)]
theorem flat_of (ss : List Row2) : ((ss.map refOf).map evRef).flatten = ss.flatMap cells2 := by
  rw [List.map_map, List.flatMap_def]
  exact congrArg List.flatten (List.map_congr_left fun x _ => evRef_of x)
theorem sort_below {w : World} {b n₀ : Nat} (enc : Ref → List Value) (k off n : Nat) (d : Array Ref) (os : Array Obj) (hb : n₀ ≤ b) (hn : n₀ ≤ w.heap.size) : Below n₀ w (sortWorldK enc k w b off n d os) := by
  have hg := sort_gro (w := w) (b := b) enc k off n d os
  exact ⟨hg.os, hg.tape, hg.out, hg.size, fun i hi => sort_other enc k off n d os (by omega) (by omega)⟩
theorem owns_holds {W : World} {base n : Nat} {v : Value} {ss : List Row2} (h : W.ownsRow base 24 2 v n (ss.flatMap cells2)) (hn : n = ss.length) (hne : ss ≠ []) :
    ∃ b cap cur, v = .slice (some ⟨b, 0, none⟩) n cap ∧ base ≤ b ∧ W.heap[b]? = some (.cells cur 24 (0, 0)) ∧ n ≤ cap ∧ cur.size = cap * 2 ∧ HoldsK evRef 2 W b 0 (ss.map refOf).toArray := by
  rcases h.2 with ⟨_, h0⟩ | ⟨b, cap, cur, hv, hb, hc, h1, _, h2, h3⟩
  · exact absurd (List.length_eq_zero_iff.1 (hn ▸ h0)) hne
  · refine ⟨b, cap, cur, hv, hb, hc, h1, h2, fun j hj => ?_⟩
    have hfl := flatK_list evRef 2 (fun _ => rfl) (by decide) (ss.map refOf).toArray
    have hsz : (flatK evRef 2 (ss.map refOf).toArray).size = ss.length * 2 := by rw [size_flatK]; simp
    rw [hsz] at hj
    have hjc : j < cur.size := by rw [h2]; omega
    have e1 : (flatK evRef 2 (ss.map refOf).toArray)[j]! = cur[j] := by
      have g1 : (flatK evRef 2 (ss.map refOf).toArray).toList[j]? = cur.toList[j]? := by
        rw [hfl, show (ss.map refOf).toArray.toList = ss.map refOf from rfl, flat_of, ← h3, List.getElem?_take, if_pos (by omega)]
      rw [Array.getElem?_toList, Array.getElem?_toList, Array.getElem?_eq_getElem (by omega), Array.getElem?_eq_getElem hjc] at g1
      rw [getElem!_pos _ j (by omega)]
      exact Option.some.inj g1
    rw [e1, Nat.zero_add]
    exact ⟨by simp [World.cell?, hc, hjc], by simp [World.frozen?, hc]⟩
set_option maxHeartbeats 1000000 in
theorem sorted_calls (g : Nat) (lb : Array Value) (eg : ∀ args w, (callFunc g args).run Try.prog w = .ok (.enter g args) w) (S Sp : List Row2 → Prop) (N : Nat) (hN : N ≤ 1000000) (hS1 : ∀ ss, S ss → ss.length = N) (w : World) (hgok : GOKw w)
    (hseq : ∀ n, 5 ≤ n → SeqStopsK Fence.wide n Try.prog g lb (fun x : Row2 => #[row2 x]) KeepsWalks S Sp N w) :
    Calls Try.prog 30 #[.func (.func g) #[] lb, .func (.func 32) #[] #[]] w fun e w' => ∃ v ss, e = .returned v ∧ S ss ∧ Below w.heap.size w w' ∧
      ((ss = [] ∧ v = .slice none 0 0) ∨ ∃ b cap x, v = .slice (some ⟨b, 0, none⟩) ss.length cap ∧ ss.length ≤ cap ∧ w.heap.size ≤ b ∧ Row w' b x ∧ x.size = cap * 2 ∧ x.toList.take (ss.length * 2) = ((sortR (ss.map refOf)).map evRef).flatten) := by
  rw [← callsIn_wide (n := 20)]
  have h1 : 1 ≤ 20 := by decide
  have f1 : Fence.wide.fn 44 := trivial
  have f2 : Fence.wide.fn 37 := trivial
  have hcol := col_in Fence.wide 19 trivial trivial rfl (by decide) g lb trivial eg S Sp N hN w (hseq _ (by decide))
  refine callsIn_of_wp Try.func30 rfl trivial ?_ rfl
  simp only [Try.ntmps30, List.size_toArray, List.length_cons, List.length_nil, Nat.reduceAdd, Nat.reduceSub, Array.replicate_succ, Array.replicate_zero, List.push_toArray, List.append_toArray, List.nil_append, List.cons_append]
  gi_wp2_with (gi_at_call 44; refine hcol.mono ?_; rintro e w1 ⟨v, ss, rfl, hS, hrow, hnil, hb⟩)
  by_cases hss : ss = []
  · have hv := hnil.2 hss
    subst hv hss
    have hsrt : CallsIn Fence.wide 19 Try.prog 37 #[.slice none 0 0, .func (.func 32) #[] #[]] w1 _ := callsIn_wide.2 (AnyF.slices_SortFunc_none Try.laysSort none 0 (.func (.func 32) #[] #[]) w1)
    gi_wp2_with (gi_at_call 37; refine hsrt.mono ?_; rintro e w2 ⟨rfl, rfl⟩)
    go_ret
    exact ⟨_, [], rfl, hS, hb, .inl ⟨rfl, rfl⟩⟩
  · obtain ⟨b, cap, cur, rfl, hbb, hcur, hcap, hcs, hH⟩ := owns_holds hrow rfl hss
    have hbl : b < w1.heap.size := (Array.getElem?_eq_some_iff.1 hcur).1
    have hsl : ss.length < 4611686018427387904 := by rw [hS1 ss hS]; omega
    have hg1 : GOKw w1 := hgok.mono fun k hk => hb.block k (Nat.lt_of_lt_of_le hk hgok.lt)
    have hsrt0 := sort_calls w1 b 0 cap (ss.map refOf).toArray hg1 (Nat.le_trans hgok.lt hbb) hH hbl (by simpa using hsl)
    rw [show (ss.map refOf).toArray.size = ss.length by simp] at hsrt0
    have hsrt : CallsIn Fence.wide 19 Try.prog 37 #[.slice (some ⟨b, 0, none⟩) ss.length cap, .func (.func 32) #[] #[]] w1 _ := callsIn_wide.2 hsrt0
    gi_wp2_with (gi_at_call 37; refine hsrt.mono ?_; rintro e w2 ⟨rfl, m, os, rfl⟩)
    go_ret
    have hrow1 : Row w1 b cur := ⟨_, hcur⟩
    rw [srtRef_eq]
    have hlen : (sortR (ss.map refOf)).length = ss.length := by rw [sortR_len]; simp
    have hfl := flatK_list evRef 2 (fun _ => rfl) (by decide) (sortR (ss.map refOf)).toArray
    have hfs : (flatK evRef 2 (sortR (ss.map refOf)).toArray).size = ss.length * 2 := by rw [size_flatK]; simp [hlen]
    have hr2 := sort_row hrow1 evRef 2 0 m (sortR (ss.map refOf)).toArray os (by rw [hcs]; simp [hlen]; omega)
    refine ⟨_, ss, rfl, hS, hb.trans (sort_below evRef 2 0 m _ os hbb hb.size), .inr ⟨b, cap, _, rfl, hcap, hbb, hr2, ?_, ?_⟩⟩
    · simp only [List.take_zero, List.nil_append, Nat.zero_add, List.size_toArray, List.length_append, Array.length_toList, List.length_drop, hfs, hcs]
      omega
    · have hll : (flatK evRef 2 (sortR (ss.map refOf)).toArray).toList.length = ss.length * 2 := by rw [Array.length_toList]; exact hfs
      show List.take (ss.length * 2) (List.take 0 _ ++ _ ++ _) = _
      rw [List.take_zero, List.nil_append]
      refine (List.take_append_of_le_length (Nat.le_of_eq hll.symm)).trans ?_
      refine (List.take_of_length_le (Nat.le_of_eq hll)).trans hfl
theorem keyR_vr {S : Stab} {β : List Blk} : {es : List AV} → {ents : List MapEntry} → {ks : List Ref} → EntsR S β es ents → es.mapM keyR = some ks → ∃ rs : List Row2, rs.map refOf = ks ∧ ents.map (·.key) = rs.map row2 := by
  intro es
  induction es with
  | nil =>
    intro ents ks h hk
    have hl := h.1
    simp at hl hk
    subst hk
    cases ents with
    | nil => exact ⟨[], rfl, rfl⟩
    | cons x r => simp at hl
  | cons e es ih =>
    intro ents ks h hk
    cases ents with
    | nil => have := h.1; simp at this
    | cons x ents =>
      rw [List.mapM_cons] at hk
      cases h1 : keyR e with
      | none => rw [h1] at hk; cases hk
      | some k =>
        cases h2 : es.mapM keyR with
        | none => rw [h1, h2] at hk; cases hk
        | some ks' =>
          rw [h1, h2] at hk
          simp only [Option.pure_def, Option.bind_eq_bind, Option.bind_some, Option.some.injEq] at hk
          subst hk
          obtain ⟨rs, hr1, hr2⟩ := ih (ents := ents) ⟨by have := h.1; simpa using this, fun i a y ha hy => h.2 (i + 1) a y (by simpa using ha) (by simpa using hy)⟩ h2
          obtain ⟨kk, vv, rfl, hkk, _⟩ := h.2 0 e x rfl rfl
          unfold keyR at h1
          split at h1
          · rename_i a b v he
            simp only [AV.tup.injEq, List.cons.injEq, and_true] at he
            obtain ⟨rfl, rfl⟩ := he
            simp only [Option.some.injEq] at h1
            subst h1
            simp only [VR, VRs] at hkk
            obtain ⟨_, hx, _, _, rfl, ⟨y1, rfl, hy1⟩, _, _, rfl, ⟨y2, rfl, hy2⟩, rfl⟩ := hkk
            refine ⟨(y1, y2) :: rs, ?_, ?_⟩
            · simp only [List.map_cons, refOf, hy1, hy2, hr1]
            · simp only [List.map_cons, hr2, hx, row2]
          · cases h1
theorem vr_refs {S : Stab} {β : List Blk} {b cap : Nat} {x : Array Value} {l : List Ref} (hl : l.length ≤ cap) (hx : x.size = cap * 2) (ht : x.toList.take (l.length * 2) = (l.map evRef).flatten) :
    VR (S.withRowTo b x.size x) β (refsA l) (.slice (some ⟨b, 0, none⟩) l.length cap) := by
  simp only [refsA, VR, List.length_map]
  refine ⟨some ⟨b, 0, none⟩, cap, rfl, hl, (fun h => by cases h), fun q hq => ?_⟩
  simp only [Option.some.injEq] at hq
  subst hq
  refine ⟨fun _ => rfl, 2, .of_get fun i e he => ?_⟩
  rw [List.getElem?_map] at he
  cases hi : l[i]? with
  | none => rw [hi] at he; cases he
  | some r =>
    rw [hi] at he
    simp only [Option.map_some, Option.some.injEq] at he
    subst he
    have hil := lt_of_get hi
    refine ⟨.agg (evRef r).toArray, vr_ref _ _ r, rfl, fun j v hj => ?_⟩
    have hj2 : j < 2 := by
      have := lt_of_get hj
      simpa [Value.cells, evRef] using this
    have hg : (l.map evRef).flatten[i * 2 + j]? = some v := by
      rw [flatten_get evRef 2 (fun _ => rfl) (by decide), show (i * 2 + j) / 2 = i by omega, show (i * 2 + j) % 2 = j by omega, hi]
      simpa [Value.cells] using hj
    rw [← ht, List.getElem?_take, if_pos (by omega), Array.getElem?_toList] at hg
    unfold Stab.withRowTo
    dsimp only
    rw [if_pos rfl, if_pos (by omega), Nat.zero_add]
    exact hg
theorem oth30 (call : FuncId → List AV → M AV) (args : List AV) (h : Hp) (S : Stab) (β : List Blk) (w : World) (vs : List Value) (hr : sortedE [45, 52] 32 call args h ≠ .fail) (hg : GOK β h w) (hw : Wf S w) (hh : HeapX S β w h) (hv : VRs S β args vs) :
    Calls Try.prog 30 vs.toArray w (CPost none S β h w (sortedE [45, 52] 32 call args h)) := by
  unfold sortedE at hr ⊢
  split at hr
  · rename_i g x o'
    cases hb : memN [45, 52] g && Nat.beq 32 o' with
    | false => rw [hb] at hr; exact absurd rfl hr
    | true =>
      rw [hb] at hr
      simp only [cond_true] at hr ⊢
      cases hes : entsA h x with
      | none => rw [hes] at hr; exact absurd rfl hr
      | some es =>
        rw [hes] at hr
        simp only at hr ⊢
        cases hks : es.mapM keyR with
        | none => rw [hks] at hr; exact absurd rfl hr
        | some ks =>
          rw [hks] at hr
          simp only at hr ⊢
          by_cases hlen : ks.length ≤ 1000000
          · rw [if_pos hlen] at hr ⊢
            simp only [Bool.and_eq_true] at hb
            have ho : o' = 32 := (Nat.eq_of_beq_eq_true hb.2).symm
            subst ho
            simp only [VRs, VR] at hv
            obtain ⟨_, _, rfl, ⟨_, _, rfl, rfl, _, _, rfl, ⟨Bm, Bo, cs, rfl, ⟨xv, _, rfl, hxv, rfl⟩, hcell⟩, rfl⟩, _, _, rfl, ⟨_, _, rfl, rfl, rfl⟩, rfl⟩ := hv
            have hBs : S Bm Bo = some xv := hcell 0 xv rfl
            have hBc := hw _ _ _ hBs
            have hBl := hw.lt hBs
            have hh0 := hh
            obtain ⟨_, ω, hH⟩ := hh
            have hkeys : ∃ rs : List Row2, rs.map refOf = ks ∧ ((w.cell? ⟨Bm, Bo, none⟩ = some (.map none) ∧ rs = []) ∨ ∃ b es clock, w.cell? ⟨Bm, Bo, none⟩ = some (.map (some b)) ∧ w.heap[b]? = some (.map es clock) ∧ Stamps es.toList clock ∧ es.toList.map (·.key) = rs.map row2) := by
              unfold entsA at hes
              split at hes
              · rename_i l
                split at hes
                · rename_i es' hl
                  simp only [Option.some.injEq] at hes
                  subst hes
                  simp only [VR] at hxv
                  obtain ⟨⟨b, z⟩, hbl, h0, rfl⟩ := hxv
                  simp only at h0
                  subst h0
                  obtain ⟨ents, clock, g1, g2, g3, _⟩ := hH.mapRow hl hbl
                  obtain ⟨rs, r1, r2⟩ := keyR_vr g2 hks
                  exact ⟨rs, r1, .inr ⟨b, ents, clock, hBc, g1, g3, r2⟩⟩
                · cases hes
              · simp only [Option.some.injEq] at hes
                subst hes
                simp only [VR] at hxv
                subst hxv
                simp at hks
                subst hks
                exact ⟨[], rfl, .inl ⟨hBc, rfl⟩⟩
              · cases hes
            obtain ⟨rs, hrs, hc⟩ := hkeys
            have hgen : ∀ g', (∀ args w, (callFunc g' args).run Try.prog w = .ok (.enter g' args) w) →
                (∀ n, 5 ≤ n → SeqStopsK Fence.wide n Try.prog g' #[.pointer (some ⟨Bm, Bo, none⟩)] (fun x : Row2 => #[row2 x]) KeepsWalks (fun ss => ss.Perm rs) (fun _ => True) rs.length w) →
                Calls Try.prog 30 #[.func (.func g') #[] #[.pointer (some ⟨Bm, Bo, none⟩)], .func (.func 32) #[] #[]] w (CPost none S β h w (.ok (refsA (sortR ks)) h)) := by
              intro g' eg hseq
              refine (sorted_calls g' _ eg _ _ rs.length (by rw [← hrs] at hlen; simpa using hlen) (fun ss hs => hs.length_eq) w hg.1 hseq).mono ?_
              rintro e w' ⟨v, ss, rfl, hS, hB, hres⟩
              have hso : sortR ks = sortR (ss.map refOf) := by rw [← hrs]; exact sortR_of_perm (hS.map refOf).symm
              rcases hres with ⟨rfl, rfl⟩ | ⟨b, cap, y, rfl, h1, h2, h3, h4, h5⟩
              · refine cpost_below hw hh0 hB noDr ?_
                rw [hso]
                simp only [List.map_nil, sortR, refsA, VR, List.length_nil]
                exact ⟨none, 0, rfl, Nat.le_refl _, fun _ => rfl, fun q hq => by cases hq⟩
              · have hl2 : (sortR (ss.map refOf)).length = ss.length := by rw [sortR_len]; simp
                refine cpost_row hw hh0 hB noDr h3 h2 ?_
                rw [hso]
                have := vr_refs (S := S) (β := β) (b := b) (cap := cap) (x := y) (l := sortR (ss.map refOf)) (by omega) h4 (by rw [hl2]; exact h5)
                rw [hl2] at this
                exact this
            have hg2 : g = 45 ∨ g = 52 := by
              have := hb.1
              simp only [memN] at this
              cases h1 : Nat.beq 45 g with
              | true => exact .inl (Nat.eq_of_beq_eq_true h1).symm
              | false =>
                rw [h1] at this
                cases h2 : Nat.beq 52 g with
                | true => exact .inr (Nat.eq_of_beq_eq_true h2).symm
                | false => rw [h2] at this; cases this
            rcases hg2 with rfl | rfl
            · exact hgen 45 (enters_of Try.func45 (by kernel_rfl) rfl) fun n hn => keys45_stops Fence.wide n trivial rfl (by omega) Bm Bo rs w hBl hc
            · exact hgen 52 (enters_of Try.func52 (by kernel_rfl) rfl) fun n hn => keys52_stops Fence.wide n trivial rfl (by omega) Bm Bo rs w hBl hc
          · rw [if_neg hlen] at hr; exact absurd rfl hr
  · exact absurd rfl hr
end Go.Proofs.Ytpnonheegflllaa
