/- Slices of ranges and of versions, read as arguments. No condition. -/
import Derived.Test.YtllapohmppeceaaGreatDoorSrt
import Derived.Test.YtllapohmppeceaaGreatDoorGok
import Derived.Test.YtllapohmppeceaaGreatDoorLc
import Derived.Deep.Slices
import Derived.WideShapes
namespace Go.Proofs.YtllapohmppeceaaGreatDoor
open Go Go.Av Go.Av.Ap Go.ChangeShapes Go.WideShapes Go.RowKit Go.Deep
set_option maxRecDepth 1000000
theorem kids : Kids Tryz.prog (· < Tryz.prog.types.size) := kids_rows (by kernel_rfl) (by kernel_rfl)
theorem slices_full : ∀ t e, t < Tryz.prog.types.size → Tryz.prog.underlying t = some (.slice e) → 0 < Tryz.prog.cellsOf e := slices_full_of Tryz.prog (by kernel_rfl)
theorem cells3 : Tryz.prog.cellsOf 3 = 1 := by kernel_rfl
theorem cells23' : Tryz.prog.cellsOf 23 = 3 := by kernel_rfl
theorem cells40 : Tryz.prog.cellsOf 40 = 6 := by kernel_rfl
section
variable {H : Type} {enc : TypeId × Value → H} {W : World} {base : Nat} {sp : Nat → Bool} {held : Bool}
theorem read_ver {fuel : Nat} {cs : List Value} {x : DataW H × List MemPlace} (h : DataW.trod enc Tryz.prog W base sp held fuel 23 cs = some x) : ∃ v : Ver, cs = [.int .i64 v.a, .int .i64 v.b, .int .i64 v.c] := by
  obtain ⟨xs, n, _, _, hl, hxs, hf⟩ := DataW.trod_struct Tryz.underlying23 h
  rw [cells23'] at hl
  match cs, hl with
  | [c0, c1, c2], _ =>
    have hx : xs.length = 3 := hxs
    have one : ∀ (i : Nat) (f : Field) (c : Value), i < 3 → (#[{ name := "Major", type := 3, offset := 0, embedded := false, tag := "", pkgPath := "", byteOffset := 0 }, { name := "Minor", type := 3, offset := 1, embedded := false, tag := "", pkgPath := "", byteOffset := 8 }, { name := "Patch", type := 3, offset := 2, embedded := false, tag := "", pkgPath := "", byteOffset := 16 }] : Array Field)[i]? = some f → f.type = 3 → ([c0, c1, c2].drop f.offset).take 1 = [c] → ∃ n, c = .int .i64 n := by
      intro i f c hi hfi ht hc
      have h1 := hf i f hfi
      rw [ht, cells3, hc, List.getElem?_eq_getElem (by omega)] at h1
      obtain ⟨n, e, _⟩ := DataW.trod_int Tryz.underlying3 h1
      simp only [List.cons.injEq, and_true] at e
      exact ⟨n, e⟩
    obtain ⟨a, rfl⟩ := one 0 _ c0 (by omega) rfl rfl rfl
    obtain ⟨b, rfl⟩ := one 1 _ c1 (by omega) rfl rfl rfl
    obtain ⟨c, rfl⟩ := one 2 _ c2 (by omega) rfl rfl rfl
    exact ⟨⟨a, b, c⟩, rfl⟩
theorem read_rng {fuel : Nat} {cs : List Value} {x : DataW H × List MemPlace} (h : DataW.trod enc Tryz.prog W base sp held fuel 40 cs = some x) : ∃ r : Rng, cs = evR r := by
  obtain ⟨xs, n, _, _, hl, hxs, hf⟩ := DataW.trod_struct Tryz.underlying40 h
  rw [cells40] at hl
  match cs, hl with
  | [c0, c1, c2, c3, c4, c5], _ =>
    have hx : xs.length = 2 := hxs
    have h0 := hf 0 _ rfl
    have h1 := hf 1 _ rfl
    rw [List.getElem?_eq_getElem (by omega)] at h0 h1
    obtain ⟨v, e0⟩ := read_ver h0
    obtain ⟨w, e1⟩ := read_ver h1
    change List.take (Tryz.prog.cellsOf 23) [c0, c1, c2, c3, c4, c5] = _ at e0
    change List.take (Tryz.prog.cellsOf 23) [c3, c4, c5] = _ at e1
    rw [cells23'] at e0 e1
    simp only [List.take_succ_cons, List.take_zero, List.cons.injEq, and_true] at e0 e1
    obtain ⟨rfl, rfl, rfl⟩ := e0
    obtain ⟨rfl, rfl, rfl⟩ := e1
    exact ⟨⟨v, w⟩, rfl⟩
theorem spot_none {t e : TypeId} {r : Reach} {b0 : Nat} {a : Addr} {len cap : Nat} (ht : Tryz.prog.underlying t = some (.slice e)) (h : Value.okWide Tryz.prog W r b0 t (.slice (some a) len cap)) : a.spot = none := by
  unfold Value.okWide at h
  rw [ht] at h
  simp only [Cell.okWide, ht, Cell.ok, World.has] at h
  exact h.2.2.2.1
theorem vr_ver (S : Stab) (β : List Blk) (x : Ver) : VR S β x.av (.agg #[.int .i64 x.a, .int .i64 x.b, .int .i64 x.c]) := by
  simp only [Ver.av, VR, VRs]
  exact ⟨[.int .i64 x.a, .int .i64 x.b, .int .i64 x.c], rfl, _, _, rfl, rfl, _, _, rfl, rfl, _, _, rfl, rfl, rfl⟩
theorem cells_at {a : Addr} {n : Nat} {cs : List Value} {i sz : Nat} (hs : a.spot = none) (h : W.cells? base (a.add (i * sz)) n = some cs) : ∀ j v, cs[j]? = some v → W.cell? ⟨a.block, a.off + i * sz + j, none⟩ = some v := by
  obtain ⟨_, hl, hc⟩ := World.cells?_some h
  intro j v hv
  have hj : j < n := by
    rcases Nat.lt_or_ge j n with k | k
    · exact k
    · rw [List.getElem?_eq_none (by omega)] at hv; cases hv
  have := hc j hj
  rw [hv] at this
  rw [← this]
  have e : (a.add (i * sz)).add j = ⟨a.block, a.off + i * sz + j, none⟩ := by
    obtain ⟨b, o, s⟩ := a
    simp only at hs
    subst hs
    unfold Addr.add
    by_cases h1 : i * sz = 0 <;> by_cases h2 : j = 0 <;> simp [h1, h2]
  rw [e]
theorem open_rngs {r : Reach} {b0 : Nat} {v : Value} {d : DataW H} {p : List MemPlace} (hok : Value.okWide Tryz.prog W r b0 24 v) (h : DataW.Trod enc Tryz.prog W base (fun _ => true) held 24 v d p) : ∃ l : List Rng, VR (allS W) [] (rngs l) v := by
  obtain ⟨a, len, cap, rfl⟩ := okWide_slice Tryz.underlying24 hok
  obtain ⟨fuel, hf⟩ := h
  rcases open_slice Tryz.underlying24 hf with ⟨e1, _⟩ | ⟨a', len', cap', m, n, D, Pl, e1, _, hle, _, hm, _, hx⟩
  · simp only [show (Value.slice a len cap).cells.toList = [Value.slice a len cap] from rfl, List.cons.injEq, and_true] at e1
    rw [e1]
    exact ⟨[], by simp only [rngs, List.map_nil, VR]; exact ⟨none, 0, rfl, Nat.le_refl _, fun _ => rfl, fun q hq => by cases hq⟩⟩
  · simp only [show (Value.slice a len cap).cells.toList = [Value.slice a len cap] from rfl, List.cons.injEq, and_true] at e1
    rw [e1] at hok ⊢
    have hs := spot_none Tryz.underlying24 hok
    rw [cells40] at hx
    simp only [if_true] at hm
    refine vr_slice Rng.av (fun r => .agg (evR r).toArray) 6 (fun x => vr_rng _ _ x) (fun _ => rfl) hle hs fun i hi => ?_
    obtain ⟨cs, h1, h2⟩ := hx i (by omega)
    obtain ⟨r, rfl⟩ := read_rng h2
    exact ⟨r, fun j v hv => cells_at hs h1 j v (by simpa [Value.cells] using hv)⟩
theorem open_vers {r : Reach} {b0 : Nat} {v : Value} {d : DataW H} {p : List MemPlace} (hok : Value.okWide Tryz.prog W r b0 25 v) (h : DataW.Trod enc Tryz.prog W base (fun _ => true) held 25 v d p) : ∃ l : List Ver, VR (allS W) [] (vers l) v := by
  obtain ⟨a, len, cap, rfl⟩ := okWide_slice Tryz.underlying25 hok
  obtain ⟨fuel, hf⟩ := h
  rcases open_slice Tryz.underlying25 hf with ⟨e1, _⟩ | ⟨a', len', cap', m, n, D, Pl, e1, _, hle, _, hm, _, hx⟩
  · simp only [show (Value.slice a len cap).cells.toList = [Value.slice a len cap] from rfl, List.cons.injEq, and_true] at e1
    rw [e1]
    exact ⟨[], by simp only [vers, List.map_nil, VR]; exact ⟨none, 0, rfl, Nat.le_refl _, fun _ => rfl, fun q hq => by cases hq⟩⟩
  · simp only [show (Value.slice a len cap).cells.toList = [Value.slice a len cap] from rfl, List.cons.injEq, and_true] at e1
    rw [e1] at hok ⊢
    have hs := spot_none Tryz.underlying25 hok
    rw [cells23'] at hx
    simp only [if_true] at hm
    refine vr_slice Ver.av (fun x => .agg #[.int .i64 x.a, .int .i64 x.b, .int .i64 x.c]) 3 (fun x => vr_ver _ _ x) (fun _ => rfl) hle hs fun i hi => ?_
    obtain ⟨cs, h1, h2⟩ := hx i (by omega)
    obtain ⟨r, rfl⟩ := read_ver h2
    exact ⟨r, fun j v hv => cells_at hs h1 j v (by simpa [Value.cells] using hv)⟩
end
end Go.Proofs.YtllapohmppeceaaGreatDoor
