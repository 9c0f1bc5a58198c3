/- Functions of Go's library that are known by contracts: strconv.Atoi, strings.IndexByte. No condition. -/
import Derived.Test.YteemeakjlfnapaaGreatDoorOthC
import Derived.Test.YteemeakjlfnapaaGreatDoorLayS
import Derived.Test.YteemeakjlfnapaaGreatDoorLd
namespace Go.Proofs.YteemeakjlfnapaaGreatDoor
open Go Go.Av Go.RowKit
set_option maxRecDepth 100000
theorem oth209 (call : FuncId → List AV → M AV) (args : List AV) (h : Hp) (S : Stab) (β : List Blk) (w : World) (vs : List Value) (hr : atoiE 257 call args h ≠ .fail) (hg : GOK β h w) (hw : Wf S w) (hh : HeapX S β w h) (hv : VRs S β args vs) :
    Calls Tryz.prog 209 vs.toArray w (CPost none S β h w (atoiE 257 call args h)) := by
  unfold atoiE at hr ⊢
  split at hr
  · rename_i s
    obtain ⟨x, r, rfl, hx, hv⟩ := str_val hv
    simp only [VRs] at hv
    subst hv
    cases hc : decide (s.length ≤ 281474976710656) with
    | false => rw [hc] at hr; exact absurd rfl hr
    | true =>
      simp only [cond_true]
      have hlen : x.size = s.length := by rw [← hx, Array.length_toList]; rfl
      have hlim := of_decide_eq_true hc
      subst hx
      cases ha : Lib.atoiAll x.data.toList with
      | ok v =>
        refine (Any.strconv_Atoi_ok Tryz.laysC172 x (by omega) v ha w).mono ?_
        rintro e w' ⟨rfl, hW⟩
        refine cpost_below hw hh ?_ noDr (by simp only [atoiR, ha, VR, VRs]; exact ⟨[_, _], rfl, _, _, rfl, rfl, _, _, rfl, rfl, rfl⟩)
        rcases hW with rfl | ⟨t, rfl⟩
        · exact Below.refl _ _
        · exact Lib.bytesWorld_below _ _ _
      | range =>
        obtain ⟨t, p, hs⟩ := hg.1.rng
        refine (Any.strconv_Atoi_range Tryz.laysC172 x (by omega) ha _ w hs (.inr ⟨t, p, rfl⟩)).mono ?_
        rintro e w' ⟨N, rfl, _, _, hb⟩
        exact cpost_below hw hh hb noDr (by simp only [atoiR, ha, VR, VRs]; exact ⟨[_, _], rfl, _, _, rfl, rfl, _, _, rfl, ⟨_, rfl, trivial⟩, rfl⟩)
      | _ =>
        obtain ⟨t, p, hs⟩ := hg.1.syn
        refine (Any.strconv_Atoi_syntax Tryz.laysC172 x (by omega) ha _ w hs (.inr ⟨t, p, rfl⟩)).mono ?_
        rintro e w' ⟨N, rfl, _, _, hb⟩
        exact cpost_below hw hh hb noDr (by simp only [atoiR, ha, VR, VRs]; exact ⟨[_, _], rfl, _, _, rfl, rfl, _, _, rfl, ⟨_, rfl, trivial⟩, rfl⟩)
  · exact absurd rfl hr
theorem oth208 (call : FuncId → List AV → M AV) (args : List AV) (h : Hp) (S : Stab) (β : List Blk) (w : World) (vs : List Value) (hr : indexByteE call args h ≠ .fail) (_hg : GOK β h w) (hw : Wf S w) (hh : HeapX S β w h) (hv : VRs S β args vs) :
    Calls Tryz.prog 208 vs.toArray w (CPost none S β h w (indexByteE call args h)) := by
  unfold indexByteE at hr ⊢
  split at hr
  · rename_i s n
    obtain ⟨x, r, rfl, hx, hv⟩ := str_val hv
    simp only [VRs, VR] at hv
    obtain ⟨_, _, rfl, rfl, rfl⟩ := hv
    refine (Any.strings_IndexByte Tryz.lays137 x n w).mono ?_
    rintro e w' ⟨rfl, rfl⟩
    exact cpost_below hw hh (Below.refl _ _) noDr (by simp only [VR]; rw [hx])
  · exact absurd rfl hr
end Go.Proofs.YteemeakjlfnapaaGreatDoor
