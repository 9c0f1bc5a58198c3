/- slices.Backward over functions: the walk. No condition. -/
import Derived.RangeFuncNested
import Derived.RangeFuncBound
import Derived.RangeFuncCalls
import Derived.RangeFuncLeaves
import Derived.RangeFuncBox
import Derived.Shelf.Abstract
import Derived.Shelf.RegionOpen
import Derived.WalkKit
import Derived.OwnWalkIn
import Derived.TacticsInMore
import Derived.LoopNIn
import Derived.LoopIn
import Derived.Test.YtpnonheegflllaaLb
import Derived.Test.YtpnonheegflllaaProg
namespace Go.Proofs.Ytpnonheegflllaa
open Go Go.Av Go.RowKit Go.Shelf
attribute [local go_sem] Oper.semAt_some
structure F12 where
  n : ByteArray
  a1 : Value
  a2 : Value
  a3 : Value
  a4 : Value
  a5 : Value
  a6 : Value
  a7 : Value
  a8 : Value
  a9 : Value
  a10 : Value
  a11 : Value
instance : Inhabited F12 := ⟨⟨⟨#[]⟩, undef, undef, undef, undef, undef, undef, undef, undef, undef, undef, undef⟩⟩
def F12.arr (x : F12) : Array Value := #[.string x.n, x.a1, x.a2, x.a3, x.a4, x.a5, x.a6, x.a7, x.a8, x.a9, x.a10, x.a11]
def F12.v (x : F12) : Value := .agg #[.string x.n, x.a1, x.a2, x.a3, x.a4, x.a5, x.a6, x.a7, x.a8, x.a9, x.a10, x.a11]
def Cells12 (W : World) (b off : Nat) (zs : List F12) : Prop := ∀ j, j < zs.length → W.cell? ⟨b, off + j * 12, none⟩ = some (.string (zs[j]?.getD default).n) ∧ W.cell? ⟨b, off + j * 12 + 1, none⟩ = some (zs[j]?.getD default).a1 ∧ W.cell? ⟨b, off + j * 12 + 2, none⟩ = some (zs[j]?.getD default).a2 ∧ W.cell? ⟨b, off + j * 12 + 3, none⟩ = some (zs[j]?.getD default).a3 ∧ W.cell? ⟨b, off + j * 12 + 4, none⟩ = some (zs[j]?.getD default).a4 ∧ W.cell? ⟨b, off + j * 12 + 5, none⟩ = some (zs[j]?.getD default).a5 ∧ W.cell? ⟨b, off + j * 12 + 6, none⟩ = some (zs[j]?.getD default).a6 ∧ W.cell? ⟨b, off + j * 12 + 7, none⟩ = some (zs[j]?.getD default).a7 ∧ W.cell? ⟨b, off + j * 12 + 8, none⟩ = some (zs[j]?.getD default).a8 ∧ W.cell? ⟨b, off + j * 12 + 9, none⟩ = some (zs[j]?.getD default).a9 ∧ W.cell? ⟨b, off + j * 12 + 10, none⟩ = some (zs[j]?.getD default).a10 ∧ W.cell? ⟨b, off + j * 12 + 11, none⟩ = some (zs[j]?.getD default).a11
def KeepX (n₀ bo : Nat) (A B : World) : Prop := ∀ k, k < n₀ → k ≠ bo → B.heap[k]? = A.heap[k]?
theorem KeepX.refl (n₀ bo : Nat) (A : World) : KeepX n₀ bo A A := fun _ _ _ => rfl
theorem KeepX.trans {n₀ bo : Nat} {A B C : World} (h : KeepX n₀ bo A B) (k : KeepX n₀ bo B C) : KeepX n₀ bo A C := fun i hi hn => (k i hi hn).trans (h i hi hn)
theorem KeepX.cell {n₀ bo : Nat} {A B : World} (h : KeepX n₀ bo A B) {b o : Nat} (hb : b < n₀) (hn : b ≠ bo) : B.cell? ⟨b, o, none⟩ = A.cell? ⟨b, o, none⟩ := cell_of_heap (h b hb hn) o
theorem KeepX.of_below {n₀ bo : Nat} {A B : World} (h : Below n₀ A B) : KeepX n₀ bo A B := fun k hk _ => h.block k hk
theorem Cells12.keep {n₀ bo : Nat} {A B : World} (h : KeepX n₀ bo A B) {b off : Nat} (hb : b < n₀) (hn : b ≠ bo) {zs : List F12} (c : Cells12 A b off zs) : Cells12 B b off zs := fun j hj => by
  have := c j hj
  simpa only [h.cell hb hn] using this
theorem keepX_t {n₀ bo : Nat} {A B C : World} (h : KeepX n₀ bo A B) (k : KeepX n₀ bo B C) : KeepX n₀ bo A C := h.trans k
theorem keepX_b {n₀ bo : Nat} {w : World} (hn : n₀ ≤ w.heap.size) (W : World) (l : Nat) (o o' : Obj) (hl : w.heap.size ≤ l) (_h : W.heap[l]? = some o) (_ : o.isCells = false) (_ : o.isWalk = false) : KeepX n₀ bo W (W.putObj l o') :=
  fun k hk _ => World.putObj_heap_other (by omega)
set_option maxRecDepth 100000 in
set_option maxHeartbeats 4000000 in
theorem back1_in (F : Fence) (n : Nat) (h7 : F.fn 51) (hro : F.round = none) (hn : 1 ≤ n) (l Bs n₀ bo b off cap : Nat) (zs : List F12) (hreach : zs.length ≤ 1000000000) (hb : b < n₀) (hbo : b ≠ bo) (hBn : Bs < n₀) (hBo : Bs ≠ bo) (J : Nat → World → Prop) (Jx : World → Prop)
    (hY : ∀ k W, J k W → k < zs.length → YieldAt F (n - 1) Try.prog l #[.int .i64 ((zs.length - 1 - k : Nat) : Int), (zs[zs.length - 1 - k]?.getD default).v] W fun e W' =>
      (e = .returned (.bool true) ∧ J (k + 1) W' ∧ KeepX n₀ bo W W') ∨ (e = .returned (.bool false) ∧ Jx W'))
    (W : World) (hBs : W.cell? ⟨Bs, 0, none⟩ = some (.slice (some ⟨b, off, none⟩) zs.length cap)) (hc : Cells12 W b off zs) (h0 : J 0 W) :
    CallsIn F n Try.prog 51 #[.func (.yield l) #[] #[], .pointer (some ⟨Bs, 0, none⟩)] W fun e W' => (∃ v, e = .returned v) ∧ (J zs.length W' ∨ Jx W') := by
  refine callsIn_of_wp Try.func51 rfl h7 ?_ hro
  simp only [Try.ntmps51, List.size_toArray, List.length_cons, List.length_nil, Nat.reduceAdd, Nat.reduceSub, Array.replicate_succ, Array.replicate_zero, List.push_toArray, List.append_toArray, List.nil_append, List.cons_append]
  gi_wp2
  gi_loopw [3] (fun i wr => ∃ k : Nat, k ≤ zs.length ∧ i = .int .i64 ((zs.length : Int) - 1 - k) ∧ J k wr ∧ KeepX n₀ bo W wr)
    (fun i _ => (intOf i + 1).toNat)
  case atStart => exact ⟨0, Nat.zero_le _, by simp, h0, KeepX.refl _ _ _⟩
  case round =>
    obtain ⟨k, hk, rfl, hJs, hnx⟩ := hrel
    have hbs : wr.cell? ⟨Bs, 0, none⟩ = some (.slice (some ⟨b, off, none⟩) zs.length cap) := (hnx.cell hBn hBo).trans hBs
    by_cases hlt : k < zs.length
    · obtain ⟨fn, tmps, assign, body, hy, hR⟩ := hY k wr hJs hlt
      obtain ⟨m, hm⟩ : ∃ m : Nat, (zs.length : Int) - 1 - k = m := ⟨zs.length - 1 - k, by omega⟩
      have hm' : zs.length - 1 - k = m := by omega
      rw [hm'] at hy
      rw [hm]
      obtain ⟨c0, c1, c2, c3, c4, c5, c6, c7, c8, c9, c10, c11⟩ := (hc.keep hnx hb hbo) m (by omega)
      generalize hz : zs[m]?.getD default = z at hy c0 c1 c2 c3 c4 c5 c6 c7 c8 c9 c10 c11
      obtain ⟨z0, z1, z2, z3, z4, z5, z6, z7, z8, z9, z10, z11⟩ := z
      have hml : m < zs.length := by omega
      simp only [F12.v] at hy
      simp only at c0 c1 c2 c3 c4 c5 c6 c7 c8 c9 c10 c11
      gi_wp2
      refine hR.mono ?_
      rintro e W3 (⟨rfl, hJ3, hk3⟩ | ⟨rfl, hJx3⟩)
      · gi_wp2
        go_roundw
        case rel => exact ⟨k + 1, by omega, by congr 1; omega, hJ3, hnx.trans hk3⟩
        case measure => simp [intOf] <;> omega
      · gi_wp2
        refine bodyPost_ret (results_none rfl _ _ _) rfl ?_
        exact ⟨⟨_, rfl⟩, .inr hJx3⟩
    · obtain rfl : k = zs.length := by omega
      gi_wp2
      go_end0
      exact ⟨⟨_, rfl⟩, .inl hJs⟩
set_option maxRecDepth 100000 in
set_option maxHeartbeats 1000000 in
theorem back1_nil_in (F : Fence) (n : Nat) (h7 : F.fn 51) (hro : F.round = none) (l Bs : Nat) (p : Option Addr) (cap : Nat) (J : World → Prop) (W : World) (hBs : W.cell? ⟨Bs, 0, none⟩ = some (.slice p 0 cap)) (h0 : J W) :
    CallsIn F n Try.prog 51 #[.func (.yield l) #[] #[], .pointer (some ⟨Bs, 0, none⟩)] W fun e W' => (∃ v, e = .returned v) ∧ J W' := by
  refine callsIn_of_wp Try.func51 rfl h7 ?_ hro
  simp only [Try.ntmps51, List.size_toArray, List.length_cons, List.length_nil, Nat.reduceAdd, Nat.reduceSub, Array.replicate_succ, Array.replicate_zero, List.push_toArray, List.append_toArray, List.nil_append, List.cons_append]
  gi_wp2
  gi_loopw [3] (fun i wr => i = .int .i64 (-1) ∧ J wr) (fun _ _ => 0)
  case atStart => exact ⟨rfl, h0⟩
  case round =>
    obtain ⟨rfl, hJs⟩ := hrel
    gi_wp2
    go_end0
    exact ⟨⟨_, rfl⟩, hJs⟩
set_option maxHeartbeats 1000000 in
theorem back_in (F : Fence) (n : Nat) (h5 : F.fn 40) (hro : F.round = none) (a : Option Addr) (len cap : Nat) (w : World) :
    CallsIn F n Try.prog 40 #[.slice a len cap] w fun e w' => e = .returned (.func (.func 51) #[] #[.pointer (some ⟨w.heap.size, 0, none⟩)]) ∧ w' = w.alloc (.cells #[.slice a len cap] 38) := by
  refine callsIn_of_wp Try.func40 rfl h5 ?_ hro
  simp only [Try.ntmps40, List.size_toArray, List.length_cons, List.length_nil, Nat.reduceAdd, Nat.reduceSub, Array.replicate_succ, Array.replicate_zero, List.push_toArray, List.append_toArray, List.nil_append, List.cons_append]
  gi_wp2
  go_ret
  exact ⟨rfl, rfl⟩
def Funs12 (n₀ bo : Nat) (W : World) (sv : Value) (zs : List F12) : Prop :=
  (zs = [] ∧ ∃ p cap, sv = .slice p 0 cap) ∨ ∃ b off cap, sv = .slice (some ⟨b, off, none⟩) zs.length cap ∧ b < n₀ ∧ b ≠ bo ∧ Cells12 W b off zs
theorem Funs12.keep {n₀ bo : Nat} {A B : World} (h : KeepX n₀ bo A B) {sv : Value} {zs : List F12} : Funs12 n₀ bo A sv zs → Funs12 n₀ bo B sv zs
  | .inl e => .inl e
  | .inr ⟨b, off, cap, e, hb, hn, hc⟩ => .inr ⟨b, off, cap, e, hb, hn, hc.keep h hb hn⟩
theorem Funs12.mono {n n' bo : Nat} (h : n ≤ n') {W : World} {sv : Value} {zs : List F12} : Funs12 n bo W sv zs → Funs12 n' bo W sv zs
  | .inl e => .inl e
  | .inr ⟨b, off, cap, e, hb, hn, hc⟩ => .inr ⟨b, off, cap, e, Nat.lt_of_lt_of_le hb h, hn, hc⟩
theorem back_stops (F : Fence) (n : Nat) (h8 : F.fn 51) (hro : F.round = none) (hn : 1 ≤ n) (Bs bo : Nat) (sv : Value) (zs : List F12) (hreach : zs.length ≤ 1000000000) {α : Type} (encs : α → Array Value) (yl : List α) (hl : yl.length = zs.length)
    (he : ∀ k (h : k < yl.length), encs (yl[k]) = #[.int .i64 ((zs.length - 1 - k : Nat) : Int), (zs[zs.length - 1 - k]?.getD default).v]) (w : World) (hBs : Bs < w.heap.size) (hBo : Bs ≠ bo)
    (hc : w.cell? ⟨Bs, 0, none⟩ = some sv) (hI : Funs12 w.heap.size bo w sv zs) :
    SeqStopsK F n Try.prog 51 #[.pointer (some ⟨Bs, 0, none⟩)] encs (KeepX w.heap.size bo) (fun ys => ys = yl) (fun _ => True) zs.length w := fun l J Jx W hW _ _ hY h0 => by
  have hc' := (hW.cell (p := ⟨Bs, 0, none⟩) hBs).trans hc
  rcases hI.keep (KeepX.of_below hW) with ⟨rfl, p, cap, rfl⟩ | ⟨b, off, cap, rfl, hb, hb2, hcs⟩
  · have : yl = [] := List.length_eq_zero_iff.1 (by simpa using hl)
    subst this
    exact (back1_nil_in F n h8 hro l Bs p cap (J []) W hc' h0).mono fun e W' ⟨he, hj⟩ => ⟨he, .inl ⟨_, rfl, hj⟩⟩
  · refine (back1_in F n h8 hro hn l Bs w.heap.size bo b off cap zs hreach hb hb2 hBs hBo (fun k W => J (yl.take k) W) (fun W => ∃ pre, True ∧ Jx pre W) (fun k W hJ hk => ?_) W hc' hcs (by simpa using h0)).mono fun e W' ⟨he, hj⟩ => ⟨he, ?_⟩
    · have hka : k < yl.length := by omega
      have h1 := hY (yl.take k) (yl[k]) W hJ (by rw [List.length_take]; omega)
      rw [he k hka] at h1
      obtain ⟨fn, tmps, assign, body, hy, hR⟩ := h1
      refine ⟨fn, tmps, assign, body, hy, hR.mono fun e W' h => ?_⟩
      rcases h with ⟨h2, h3, h4⟩ | ⟨h2, h3⟩
      · exact .inl ⟨h2, by rw [List.take_add_one, List.getElem?_eq_getElem hka]; exact h3, h4⟩
      · exact .inr ⟨h2, _, trivial, h3⟩
    · rcases hj with hj | hj
      · exact .inl ⟨yl, rfl, by rwa [← hl, List.take_length] at hj⟩
      · exact .inr hj
end Go.Proofs.Ytpnonheegflllaa
