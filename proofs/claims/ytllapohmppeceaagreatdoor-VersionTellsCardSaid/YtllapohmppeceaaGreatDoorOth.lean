/- The functions of Go's library that are known by contracts. No condition. -/
import Derived.Test.YtllapohmppeceaaGreatDoorLay
import Derived.Test.YtllapohmppeceaaGreatDoorGood
import Derived.Test.YtllapohmppeceaaGreatDoorLc
namespace Go.Proofs.YtllapohmppeceaaGreatDoor
open Go Go.Av Go.RowKit
set_option maxRecDepth 100000
theorem below_grow (w : World) (k : Nat) (os : Array Obj) : Below w.heap.size w (Go.Sort.grow (w.drewN k) os) := by
  refine (show Below w.heap.size w (w.drewN k) from ⟨rfl, rfl, rfl, Nat.le_refl _, fun _ _ => rfl⟩).trans ⟨rfl, rfl, rfl, ?_, fun b hb => ?_⟩
  · simp [Go.Sort.grow]
  · have hb' : b < (w.drewN k).heap.size := hb
    show ((w.drewN k).heap ++ os)[b]? = _
    rw [Array.getElem?_append_left hb']
theorem tab_pow {w : World} (h : GOKw w) : Lib.TabIs Tryz.prog w "internal/strconv.uint64pow10" .u64 Lib.pow10Tab := by
  obtain ⟨t, fr, hp⟩ := h.pow
  have hn : Tryz.prog.globalNamed "internal/strconv.uint64pow10" = some 3 := by kernel_rfl
  unfold Lib.TabIs World.var?
  rw [hn]
  simp only [Option.bind_some, hp]
theorem oth30 (call : FuncId → List AV → M AV) (args : List AV) (h : Hp) (S : Stab) (β : List Blk) (w : World) (vs : List Value) (hr : itoaE call args h ≠ .fail) (hg : GOK β h w) (hw : Wf S w) (hh : HeapX S β w h) (hv : VRs S β args vs) :
    Calls Tryz.prog 30 vs.toArray w (CPost none S β h w (itoaE call args h)) := by
  unfold itoaE at hr ⊢
  split at hr
  · rename_i n
    simp only [VRs, VR] at hv
    obtain ⟨v, r, rfl, rfl, rfl⟩ := hv
    cases hc : (decide (-9223372036854775808 ≤ n) && decide (n ≤ 9223372036854775807)) with
    | false => rw [hc] at hr; exact absurd rfl hr
    | true =>
      simp only [Bool.and_eq_true, decide_eq_true_eq] at hc
      simp only [cond_true]
      refine (Any.strconv_Itoa Tryz.laysM171 n hc.1 hc.2 w (tab_pow hg.1)).mono ?_
      rintro e w' ⟨rfl, k, os, rfl⟩
      exact cpost_below hw hh (below_grow w k os) noDr (by simp only [VR]; exact ⟨_, rfl, by rw [itoaL_eq hc.1 hc.2]⟩)
  · exact absurd rfl hr
theorem str_val {S : Stab} {β : List Blk} {s : List UInt8} {r : List Value} {l : List AV} (hv : VRs S β (.str s :: l) r) : ∃ x r', r = .string x :: r' ∧ x.data.toList = s ∧ VRs S β l r' := by
  simp only [VRs, VR] at hv
  obtain ⟨v, r', rfl, ⟨x, rfl, hx⟩, h⟩ := hv
  exact ⟨x, r', rfl, hx, h⟩
theorem oth28 (call : FuncId → List AV → M AV) (args : List AV) (h : Hp) (S : Stab) (β : List Blk) (w : World) (vs : List Value) (hr : splitE call args h ≠ .fail) (hg : GOK β h w) (hw : Wf S w) (hh : HeapX S β w h) (hv : VRs S β args vs) :
    Calls Tryz.prog 28 vs.toArray w (CPost none S β h w (splitE call args h)) := by
  unfold splitE at hr ⊢
  split at hr
  · rename_i s c
    obtain ⟨x, r, rfl, hx, hv⟩ := str_val hv
    obtain ⟨y, r, rfl, hy, hv⟩ := str_val hv
    simp only [VRs] at hv
    subst hv
    cases hc : decide (s.length < 4294967281) with
    | false => rw [hc] at hr; exact absurd rfl hr
    | true =>
      simp only [cond_true]
      have hlen : x.size = s.length := by rw [← hx, Array.length_toList]; rfl
      have hsep : y.size = 1 := by
        have : y.data.toList.length = 1 := by rw [hy]; rfl
        rw [Array.length_toList] at this
        exact this
      obtain ⟨m, hm⟩ := hg.1.max
      refine (Any.strings_Split Tryz.lays146 (by kernel_rfl) x y m w (by have := of_decide_eq_true hc; omega) hm (by omega)).mono ?_
      rintro e w' ⟨rfl, rfl⟩
      have hcnt : Lib.countB x y = s.count c := by
        show Lib.count x.data.toList y.data.toList = _
        rw [hx, hy, Lib.count_one]
      have hl : (Lib.splitB y 0 (Lib.countB x y) x).map (·.data.toList) = splitC c s := by
        rw [Lib.splitB_data, hx, hy, hcnt, splitK_C]
      have hn : Lib.countB x y + 1 = (Lib.splitB y 0 (Lib.countB x y) x).length := by
        have := Lib.splitB_all y (by omega) 0 _ x rfl
        omega
      rw [hn]
      exact cpost_row hw hh (((Below.refl _ _).alloc (Nat.le_refl _) _)) noDr (Row.new w _ _) (Nat.le_refl _) (strs_row S β w.heap.size _ _ hl)
  · exact absurd rfl hr
theorem oth29 (call : FuncId → List AV → M AV) (args : List AV) (h : Hp) (S : Stab) (β : List Blk) (w : World) (vs : List Value) (hr : atoiE 79 call args h ≠ .fail) (hg : GOK β h w) (hw : Wf S w) (hh : HeapX S β w h) (hv : VRs S β args vs) :
    Calls Tryz.prog 29 vs.toArray w (CPost none S β h w (atoiE 79 call args h)) := by
  unfold atoiE at hr ⊢
  split at hr
  · rename_i s
    obtain ⟨x, r, rfl, hx, hv⟩ := str_val hv
    simp only [VRs] at hv
    subst hv
    cases hc : decide (s.length ≤ 281474976710656) with
    | false => rw [hc] at hr; exact absurd rfl hr
    | true =>
      simp only [cond_true]
      have hlen : x.size = s.length := by rw [← hx, Array.length_toList]; rfl
      have hlim := of_decide_eq_true hc
      subst hx
      cases ha : Lib.atoiAll x.data.toList with
      | ok v =>
        refine (Any.strconv_Atoi_ok Tryz.laysC172 x (by omega) v ha w).mono ?_
        rintro e w' ⟨rfl, hW⟩
        refine cpost_below hw hh ?_ noDr (by simp only [atoiR, ha, VR, VRs]; exact ⟨[_, _], rfl, _, _, rfl, rfl, _, _, rfl, rfl, rfl⟩)
        rcases hW with rfl | ⟨t, rfl⟩
        · exact Below.refl _ _
        · exact Lib.bytesWorld_below _ _ _
      | range =>
        obtain ⟨t, p, hs⟩ := hg.1.rng
        refine (Any.strconv_Atoi_range Tryz.laysC172 x (by omega) ha _ w hs (.inr ⟨t, p, rfl⟩)).mono ?_
        rintro e w' ⟨N, rfl, _, _, hb⟩
        exact cpost_below hw hh hb noDr (by simp only [atoiR, ha, VR, VRs]; exact ⟨[_, _], rfl, _, _, rfl, rfl, _, _, rfl, ⟨_, rfl, trivial⟩, rfl⟩)
      | _ =>
        obtain ⟨t, p, hs⟩ := hg.1.syn
        refine (Any.strconv_Atoi_syntax Tryz.laysC172 x (by omega) ha _ w hs (.inr ⟨t, p, rfl⟩)).mono ?_
        rintro e w' ⟨N, rfl, _, _, hb⟩
        exact cpost_below hw hh hb noDr (by simp only [atoiR, ha, VR, VRs]; exact ⟨[_, _], rfl, _, _, rfl, rfl, _, _, rfl, ⟨_, rfl, trivial⟩, rfl⟩)
  · exact absurd rfl hr
noncomputable def cx0 (n : Nat) (a : Ann) : Cx := { T := T, call := fun _ _ => M.fail, own := own, iso := fun _ => false, nw := fun _ => false, nt := n, ann := a }
theorem cx0_calls (n : Nat) (a : Ann) : CallsOK Tryz.prog (cx0 n a).own (cx0 n a).call := fun f args h S β w vs hr => absurd rfl hr
theorem cx0_iso (n : Nat) (a : Ann) : IsoCall (cx0 n a) := ⟨fun f args h => Bool.noConfusion h, fun f args h => Bool.noConfusion h⟩
theorem e39a (e : AV) (es : List AV) : evBody (cx0 Tryz.f39.ntmps ann39) (fixM 0) Tryz.f39 none [.sl (e :: es)] = bnd (appH T 24 true (.sl []) (.sl (e :: es))) fun v => bnd (lft (some v)) M.pure := by kernel_rfl
theorem e39b : evBody (cx0 Tryz.f39.ntmps ann39) (fixM 0) Tryz.f39 none [.hn] = bnd (lft (some (.sl []))) M.pure := by kernel_rfl
theorem e39c (l off : Nat) : evBody (cx0 Tryz.f39.ntmps ann39) (fixM 0) Tryz.f39 none [.hs l off 0 1 false] = bnd (appH T 24 true (.sl []) (.hs l off 0 1 false)) fun v => bnd (lft (some v)) M.pure := by kernel_rfl
theorem oth39 (call : FuncId → List AV → M AV) (args : List AV) (h : Hp) (S : Stab) (β : List Blk) (w : World) (vs : List Value) (hr : cloneH T 24 call args h ≠ .fail) (hg : GOK β h w) (hw : Wf S w) (hh : HeapX S β w h) (hv : VRs S β args vs) :
    Calls Tryz.prog 39 vs.toArray w (CPost none S β h w (cloneH T 24 call args h)) := by
  have key : ∀ es, args = [.sl es] → Calls Tryz.prog 39 vs.toArray w (CPost none S β h w (cloneH T 24 call args h)) := by
    rintro es rfl
    exact (clone_sound (cx := cx0 Tryz.f39.ntmps ann39) (E := fun es h => cloneH T 24 call [.sl es] h) tok (cx0_calls _ _) (cx0_iso _ _) Tryz.func39 rfl (fun h => by rfl) (fun e es h => by rw [e39a]; exact congrFun (bnd_id _) h) (fun h => by rw [e39b]; rfl) (fun l off h => by rw [e39c]; rfl) hr hg hw hh hv).1
  unfold cloneH at hr
  split at hr
  · exact key _ rfl
  · exact absurd rfl hr
theorem bif_cases {α : Type} {f k : Nat} {x : α} {o : Option α} {y : α} (h : (bif Nat.beq f k then some x else o) = some y) : (f = k ∧ x = y) ∨ o = some y := by
  cases hb : Nat.beq f k with
  | true => rw [hb] at h; exact .inl ⟨Nat.eq_of_beq_eq_true hb, by simpa using h⟩
  | false => rw [hb] at h; exact .inr h
theorem good : GoodPg Tryz.prog pg where
  tok := tok
  funcs := funcs_ok
  other := by
    intro f E hE call hC args h S β w vs hr hg hw hh hv
    have h0 : other f = some E := hE
    unfold other at h0
    rcases bif_cases h0 with ⟨rfl, rfl⟩ | h0
    · exact ⟨oth28 call args h S β w vs hr hg hw hh hv, by kernel_rfl⟩
    rcases bif_cases h0 with ⟨rfl, rfl⟩ | h0
    · exact ⟨oth29 call args h S β w vs hr hg hw hh hv, by kernel_rfl⟩
    rcases bif_cases h0 with ⟨rfl, rfl⟩ | h0
    · exact ⟨oth30 call args h S β w vs hr hg hw hh hv, by kernel_rfl⟩
    rcases bif_cases h0 with ⟨rfl, rfl⟩ | h0
    · exact ⟨oth39 call args h S β w vs hr hg hw hh hv, by kernel_rfl⟩
    iterate 8
      rcases bif_cases h0 with ⟨rfl, rfl⟩ | h0
      · exact absurd rfl hr
    cases h0
  nw := by
    intro f hf
    have h0 : (bif Nat.beq f 39 then true else false) = true := hf
    cases hb : Nat.beq f 39 with
    | false => rw [hb] at h0; cases h0
    | true =>
      obtain rfl := Nat.eq_of_beq_eq_true hb
      exact ⟨_, rfl, cloneH_nw T 24⟩
end Go.Proofs.YtllapohmppeceaaGreatDoor
