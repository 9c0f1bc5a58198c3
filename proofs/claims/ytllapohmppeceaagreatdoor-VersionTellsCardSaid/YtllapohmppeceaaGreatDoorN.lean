/- The second program: sorting, growing a slice and the examples are known by contracts. No condition. -/
import Derived.Test.YtllapohmppeceaaGreatDoorSrt
namespace Go.Proofs.YtllapohmppeceaaGreatDoor.N
open Go Go.Av Go.Av.Ap Go.RowKit
set_option maxRecDepth 1000000
def trueE : (FuncId → List AV → M AV) → List AV → M AV := fun _ args => match args with
  | [] => M.pure (.bool true)
  | _ => M.fail
def growE : (FuncId → List AV → M AV) → List AV → M AV := fun _ args => match args with
  | [.hn, .int .i64 n] => lft (bif decide (0 ≤ n) && decide (n ≤ 1099511627776) then some (.sl []) else none)
  | _ => M.fail
noncomputable def other : FuncId → Option ((FuncId → List AV → M AV) → List AV → M AV) := fun f =>
  bif Nat.beq f 4 then some trueE else bif Nat.beq f 39 then some (cloneH T 24) else bif Nat.beq f 41 then some (sortE elsR 42 srt) else bif Nat.beq f 56 then some growE else bif Nat.beq f 28 then some splitE else bif Nat.beq f 29 then some (atoiE 79) else bif Nat.beq f 30 then some itoaE else none
noncomputable def pg : Pg := { T := T, funcs := findF tabF, own := own, other := other, nw := fun f => bif Nat.beq f 4 then true else bif Nat.beq f 39 then true else false }
theorem hOther : OtherLim pg := by
  intro f E hE call calls hc
  have h0 : other f = some E := hE
  unfold other at h0
  rcases other_bif h0 with rfl | h0
  · exact LimF.const _
  rcases other_bif h0 with rfl | h0
  · exact LimF.const _
  rcases other_bif h0 with rfl | h0
  · exact LimF.const _
  rcases other_bif h0 with rfl | h0
  · exact LimF.const _
  rcases other_bif h0 with rfl | h0
  · exact LimF.const _
  rcases other_bif h0 with rfl | h0
  · exact LimF.const _
  rcases other_bif h0 with rfl | h0
  · exact LimF.const _
  cases h0
theorem oth4 (call : FuncId → List AV → M AV) (args : List AV) (h : Hp) (S : Stab) (β : List Blk) (w : World) (vs : List Value) (hr : trueE call args h ≠ .fail) (hg : GOK β h w) (hw : Wf S w) (hh : HeapX S β w h) (hv : VRs S β args vs) :
    Calls Tryz.prog 4 vs.toArray w (CPost none S β h w (trueE call args h)) := by
  unfold trueE at hr ⊢
  split at hr
  · have := (callW_sound good YtllapohmppeceaaGreatDoor.hOther 4 [] h S β w vs (by rw [small_W]; simp [M.pure]) hg hw hh hv).1
    rw [small_W] at this
    exact this
  · exact absurd rfl hr
theorem info40 : (Tryz.prog.info? 40).bind (fun i => i.zero.map fun z => (i.size, i.bytes, z.cells.size)) = some (6, 48, 6) := by kernel_rfl
theorem zeroCells_size (z : Array Value) (n : Nat) : (Builtin.zeroCells z n).size = n * z.size := by
  simp [Builtin.zeroCells]
theorem grow_calls (n : Nat) (hn : n ≤ 1099511627776) (w : World) : Calls Tryz.prog 56 #[.slice none 0 0, .int .i64 n] w fun e w' => ∃ a cap, e = .returned (.slice a 0 cap) ∧
    ((a = none ∧ cap = 0 ∧ w' = w) ∨ (a = some ⟨w.heap.size, 0, none⟩ ∧ ∃ x, cap * 6 ≤ x.size ∧ w' = w.drew.alloc (.cells x 40))) := by
  rcases Nat.eq_zero_or_pos n with rfl | h0
  · refine (Any8.slices_Grow_room Tryz.layGrow none 0 0 0 w (Nat.le_refl _) (by omega) (by omega) (Nat.le_refl _)).mono ?_
    rintro e w' ⟨rfl, rfl⟩
    exact ⟨none, 0, rfl, .inl ⟨rfl, rfl, rfl⟩⟩
  · have hi := info40
    cases hi0 : Tryz.prog.info? 40 with
    | none => rw [hi0] at hi; cases hi
    | some i0 =>
      rw [hi0] at hi
      simp only [Option.bind_some] at hi
      cases hz0 : i0.zero with
      | none => rw [hz0] at hi; cases hi
      | some z =>
        rw [hz0] at hi
        simp only [Option.map_some, Option.some.injEq, Prod.mk.injEq] at hi
        obtain ⟨hs, hb, hz⟩ := hi
        refine (Any8.slices_Grow_grow Tryz.layGrow i0 z hi0 hz0 (by omega) none 0 0 n [] w (Nat.le_refl _) (by omega) (by rw [hb]; omega) (by omega) (by simp) (fun _ => rfl) (fun a ha => by cases ha)).mono ?_
        rintro e w' ⟨rfl, rfl⟩
        refine ⟨_, _, rfl, .inr ⟨rfl, _, ?_, rfl⟩⟩
        have := grownCap_ge w (0 + n) 0 (Tryz.layGrow_ren.t 25)
        simp only [Array.size_append, zeroCells_size, hz, List.size_toArray, List.length_nil]
        generalize grownCap w (0 + n) 0 (Tryz.layGrow_ren.t 25) = G at this ⊢
        omega
theorem oth56 (call : FuncId → List AV → M AV) (args : List AV) (h : Hp) (S : Stab) (β : List Blk) (w : World) (vs : List Value) (hr : growE call args h ≠ .fail) (_hg : GOK β h w) (hw : Wf S w) (hh : HeapX S β w h) (hv : VRs S β args vs) :
    Calls Tryz.prog 56 vs.toArray w (CPost (some 6) S β h w (growE call args h)) := by
  unfold growE at hr ⊢
  split at hr
  · rename_i n
    cases hc : (decide (0 ≤ n) && decide (n ≤ 1099511627776)) with
    | false => rw [hc] at hr; exact absurd rfl hr
    | true =>
      simp only [Bool.and_eq_true, decide_eq_true_eq] at hc
      simp only [cond_true]
      obtain ⟨m, rfl⟩ : ∃ m : Nat, n = m := ⟨n.toNat, by omega⟩
      simp only [VRs, VR] at hv
      obtain ⟨_, _, rfl, rfl, _, _, rfl, rfl, rfl⟩ := hv
      refine (grow_calls m (by omega) w).mono ?_
      rintro e w' ⟨a, cap, rfl, h1⟩
      have hb : Below w.heap.size w w' := by
        rcases h1 with ⟨_, _, rfl⟩ | ⟨_, x, _, rfl⟩
        · exact Below.refl _ _
        · exact (show Below w.heap.size w w.drew from ⟨rfl, rfl, rfl, Nat.le_refl _, fun _ _ => rfl⟩).trans ((Below.refl _ w.drew).alloc (Nat.le_refl _) _)
      refine ⟨S, β, _, rfl, ?_, left_below hw hh hb noDr (fun _ _ _ => rfl) (fun b o v hge hv => by have := hw.lt hv; omega), fun sz hsz => ?_⟩
      · simp only [VR]
        refine ⟨a, cap, rfl, Nat.zero_le _, fun ha => ?_, fun q hq => ?_⟩
        · rcases h1 with ⟨_, rfl, _⟩ | ⟨rfl, _⟩
          · rfl
          · cases ha
        · rcases h1 with ⟨rfl, _⟩ | ⟨rfl, _⟩
          · cases hq
          · cases hq
            exact ⟨fun _ => rfl, 6, trivial⟩
      · cases hsz
        refine ⟨a, 0, cap, rfl, Nat.zero_le _, fun ha => ?_, ?_⟩
        · rcases h1 with ⟨_, rfl, _⟩ | ⟨rfl, _⟩
          · rfl
          · cases ha
        · rcases h1 with ⟨_, rfl, _⟩ | ⟨rfl, x, hx, rfl⟩
          · exact .inl rfl
          · refine .inr ⟨w.heap.size, 0, x, rfl, ?_, by omega, Nat.le_refl _, fun ho => ?_, fun o _ => ?_⟩
            · exact Row.new w.drew x 40
            · obtain ⟨l, cs, n, k1, k2, k3⟩ := ho
              obtain ⟨_, ω, hH⟩ := hh
              obtain ⟨b', y, j1, j2, _⟩ := hH l cs k1 k2
              rw [k3] at j1
              cases j1
              exact absurd j2.lt (by omega)
            · cases hS : S w.heap.size o with
              | none => rfl
              | some v => have := hw.lt hS; omega
  · exact absurd rfl hr
theorem oth41 (call : FuncId → List AV → M AV) (args : List AV) (h : Hp) (S : Stab) (β : List Blk) (w : World) (vs : List Value) (hr : sortE elsR 42 srt call args h ≠ .fail) (hg : GOK β h w) (hw : Wf S w) (hh : HeapX S β w h) (hv : VRs S β args vs) :
    Calls Tryz.prog 41 vs.toArray w (CPost none S β h w (sortE elsR 42 srt call args h)) := by
  have hr0 := hr
  unfold sortE at hr
  split at hr
  · rename_i g' 
    cases hb : Nat.beq g' 42 with
    | false => rw [hb] at hr; exact absurd rfl hr
    | true =>
      obtain rfl := Nat.eq_of_beq_eq_true hb
      have he : evCall YtllapohmppeceaaGreatDoor.pg 20 41 [.sl [], .fn (.func 42) [] []] h = .ok (.tup []) h := by kernel_rfl
      have h1 := callW_of YtllapohmppeceaaGreatDoor.hOther he (by simp)
      have := (callW_sound good YtllapohmppeceaaGreatDoor.hOther 41 _ h S β w vs (by rw [h1]; simp) hg hw hh hv).1
      rw [h1] at this
      exact this
  · exact sort_hs elsR_ok call (fun w blk off cap d => sort_calls w blk off cap d) hr0 hg hw hh hv
  · exact absurd rfl hr
theorem good : GoodPg Tryz.prog pg where
  tok := tok
  funcs := funcs_ok
  other := by
    intro f E hE call hC args h S β w vs hr hg hw hh hv
    have h0 : other f = some E := hE
    unfold other at h0
    rcases bif_cases h0 with ⟨rfl, rfl⟩ | h0
    · exact ⟨oth4 call args h S β w vs hr hg hw hh hv, by kernel_rfl⟩
    rcases bif_cases h0 with ⟨rfl, rfl⟩ | h0
    · exact ⟨oth39 call args h S β w vs hr hg hw hh hv, by kernel_rfl⟩
    rcases bif_cases h0 with ⟨rfl, rfl⟩ | h0
    · exact ⟨oth41 call args h S β w vs hr hg hw hh hv, by kernel_rfl⟩
    rcases bif_cases h0 with ⟨rfl, rfl⟩ | h0
    · exact ⟨oth56 call args h S β w vs hr hg hw hh hv, by kernel_rfl⟩
    rcases bif_cases h0 with ⟨rfl, rfl⟩ | h0
    · exact ⟨oth28 call args h S β w vs hr hg hw hh hv, by kernel_rfl⟩
    rcases bif_cases h0 with ⟨rfl, rfl⟩ | h0
    · exact ⟨oth29 call args h S β w vs hr hg hw hh hv, by kernel_rfl⟩
    rcases bif_cases h0 with ⟨rfl, rfl⟩ | h0
    · exact ⟨oth30 call args h S β w vs hr hg hw hh hv, by kernel_rfl⟩
    cases h0
  nw := by
    intro f hf
    have h0 : (bif Nat.beq f 4 then true else bif Nat.beq f 39 then true else false) = true := hf
    cases hb : Nat.beq f 4 with
    | true =>
      obtain rfl := Nat.eq_of_beq_eq_true hb
      refine ⟨_, rfl, fun call args h v h' hh => ?_⟩
      unfold trueE at hh
      split at hh
      · cases hh; exact ⟨[], by simp⟩
      · cases hh
    | false =>
      rw [hb] at h0
      cases hb : Nat.beq f 39 with
      | false => rw [hb] at h0; cases h0
      | true =>
        obtain rfl := Nat.eq_of_beq_eq_true hb
        exact ⟨_, rfl, cloneH_nw T 24⟩
end Go.Proofs.YtllapohmppeceaaGreatDoor.N
