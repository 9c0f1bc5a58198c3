/- slices.Backward over fields, and types.lookup: the walk. No condition. -/
import Derived.RangeFuncNested
import Derived.RangeFuncBound
import Derived.RangeFuncCalls
import Derived.RangeFuncLeaves
import Derived.RangeFuncBox
import Derived.Shelf.Abstract
import Derived.Shelf.RegionOpen
import Derived.WalkKit
import Derived.OwnWalkIn
import Derived.TacticsInMore
import Derived.LoopNIn
import Derived.LoopIn
import Derived.Test.YteemeakjlfnapaaGreatDoorLa
import Derived.Test.YteemeakjlfnapaaGreatDoorProg
namespace Go.Proofs.YteemeakjlfnapaaGreatDoor
open Go Go.Av Go.RowKit Go.Shelf
attribute [local go_sem] Oper.semAt_some
abbrev Row3 := ByteArray × Int × (Option Addr × Nat × Nat)
def Row3.k (x : Row3) : Value := .int .i64 x.2.1
def Row3.f (x : Row3) : Value := .slice x.2.2.1 x.2.2.2.1 x.2.2.2.2
def row3 (x : Row3) : Value := .agg #[.string x.1, x.k, x.f]
def back (zs : List Row3) (k : Nat) : List (Nat × Row3) := (List.range k).map fun j => (zs.length - 1 - j, zs[zs.length - 1 - j]?.getD default)
theorem back_succ (zs : List Row3) (k : Nat) : back zs (k + 1) = back zs k ++ [(zs.length - 1 - k, zs[zs.length - 1 - k]?.getD default)] := by simp [back, List.range_succ]
theorem back_length (zs : List Row3) (k : Nat) : (back zs k).length = k := by simp [back]
def Cells3 (W : World) (b off : Nat) (zs : List Row3) : Prop := ∀ j, j < zs.length → W.cell? ⟨b, off + j * 3, none⟩ = some (.string (zs[j]?.getD default).1) ∧ W.cell? ⟨b, off + j * 3 + 1, none⟩ = some (zs[j]?.getD default).k ∧ W.cell? ⟨b, off + j * 3 + 2, none⟩ = some (zs[j]?.getD default).f
theorem Cells3.below {n₀ : Nat} {A B : World} (h : Below n₀ A B) {b off : Nat} (hb : b < n₀) {zs : List Row3} (c : Cells3 A b off zs) : Cells3 B b off zs := fun j hj => by
  obtain ⟨h1, h2, h3⟩ := c j hj
  exact ⟨(h.cell (p := ⟨b, _, none⟩) hb).trans h1, (h.cell (p := ⟨b, _, none⟩) hb).trans h2, (h.cell (p := ⟨b, _, none⟩) hb).trans h3⟩
set_option maxRecDepth 100000 in
set_option maxHeartbeats 2000000 in
theorem back1_in (F : Fence) (n : Nat) (h7 : F.fn 252) (hro : F.round = none) (hn : 1 ≤ n) (l Bs n₀ b off cap : Nat) (zs : List Row3) (hreach : zs.length ≤ 1000000000) (hb : b < n₀) (hBn : Bs < n₀) (J Jx : List (Nat × Row3) → World → Prop)
    (hY : ∀ pre x W, J pre W → pre.length < zs.length → YieldAt F (n - 1) Tryz.prog l #[.int .i64 (x.1 : Int), row3 x.2] W fun e W' =>
      (e = .returned (.bool true) ∧ J (pre ++ [x]) W' ∧ Below n₀ W W') ∨ (e = .returned (.bool false) ∧ Jx (pre ++ [x]) W'))
    (W : World) (hBs : W.cell? ⟨Bs, 0, none⟩ = some (.slice (some ⟨b, off, none⟩) zs.length cap)) (hc : Cells3 W b off zs) (h0 : J [] W) :
    CallsIn F n Tryz.prog 252 #[.func (.yield l) #[] #[], .pointer (some ⟨Bs, 0, none⟩)] W fun e W' => (∃ v, e = .returned v) ∧
      ((∃ ys, ys = back zs zs.length ∧ J ys W') ∨ (∃ pre, (∃ k, k ≤ zs.length ∧ pre = back zs k) ∧ Jx pre W')) := by
  refine callsIn_of_wp Tryz.func252 rfl h7 ?_ hro
  simp only [Tryz.ntmps252, List.size_toArray, List.length_cons, List.length_nil, Nat.reduceAdd, Nat.reduceSub, Array.replicate_succ, Array.replicate_zero, List.push_toArray, List.append_toArray, List.nil_append, List.cons_append]
  gi_wp2
  gi_loopw [3] (fun i wr => ∃ k : Nat, k ≤ zs.length ∧ i = .int .i64 ((zs.length : Int) - 1 - k) ∧ J (back zs k) wr ∧ Below n₀ W wr)
    (fun i _ => (intOf i + 1).toNat)
  case atStart => exact ⟨0, Nat.zero_le _, by simp, h0, Below.refl _ _⟩
  case round =>
    obtain ⟨k, hk, rfl, hJs, hnx⟩ := hrel
    have hbs : wr.cell? ⟨Bs, 0, none⟩ = some (.slice (some ⟨b, off, none⟩) zs.length cap) := (hnx.cell (p := ⟨Bs, 0, none⟩) hBn).trans hBs
    by_cases hlt : k < zs.length
    · obtain ⟨fn, tmps, assign, body, hy, hR⟩ := hY _ (zs.length - 1 - k, zs[zs.length - 1 - k]?.getD default) wr hJs (by rw [back_length]; exact hlt)
      dsimp only at hy
      obtain ⟨m, hm⟩ : ∃ m : Nat, (zs.length : Int) - 1 - k = m := ⟨zs.length - 1 - k, by omega⟩
      have hm' : zs.length - 1 - k = m := by omega
      rw [hm'] at hy hR
      rw [hm]
      obtain ⟨c1, c2, c3⟩ := (hc.below hnx hb) m (by omega)
      generalize hz : zs[m]?.getD default = z at hy hR c1 c2 c3
      obtain ⟨z1, z2, z3, z4, z5⟩ := z
      have hml : m < zs.length := by omega
      simp only [row3, Row3.k, Row3.f] at hy c2 c3
      gi_wp2
      refine hR.mono ?_
      rintro e W3 (⟨rfl, hJ3, hk3⟩ | ⟨rfl, hJx3⟩)
      · gi_wp2
        go_roundw
        case rel => exact ⟨k + 1, by omega, by congr 1; omega, by rw [back_succ, hm', hz]; exact hJ3, hnx.trans hk3⟩
        case measure => simp [intOf] <;> omega
      · gi_wp2
        refine bodyPost_ret (results_none rfl _ _ _) rfl ?_
        exact ⟨⟨_, rfl⟩, .inr ⟨_, ⟨k + 1, by omega, by rw [back_succ, hm', hz]⟩, hJx3⟩⟩
    · obtain rfl : k = zs.length := by omega
      gi_wp2
      go_end0
      exact ⟨⟨_, rfl⟩, .inl ⟨_, rfl, hJs⟩⟩
set_option maxRecDepth 100000 in
set_option maxHeartbeats 1000000 in
theorem back1_nil_in (F : Fence) (n : Nat) (h7 : F.fn 252) (hro : F.round = none) (l Bs : Nat) (p : Option Addr) (cap : Nat) (J : List (Nat × Row3) → World → Prop) (W : World) (hBs : W.cell? ⟨Bs, 0, none⟩ = some (.slice p 0 cap)) (h0 : J [] W) :
    CallsIn F n Tryz.prog 252 #[.func (.yield l) #[] #[], .pointer (some ⟨Bs, 0, none⟩)] W fun e W' => (∃ v, e = .returned v) ∧ J [] W' := by
  refine callsIn_of_wp Tryz.func252 rfl h7 ?_ hro
  simp only [Tryz.ntmps252, List.size_toArray, List.length_cons, List.length_nil, Nat.reduceAdd, Nat.reduceSub, Array.replicate_succ, Array.replicate_zero, List.push_toArray, List.append_toArray, List.nil_append, List.cons_append]
  gi_wp2
  gi_loopw [3] (fun i wr => i = .int .i64 (-1) ∧ J [] wr) (fun _ _ => 0)
  case atStart => exact ⟨rfl, h0⟩
  case round =>
    obtain ⟨rfl, hJs⟩ := hrel
    gi_wp2
    go_end0
    exact ⟨⟨_, rfl⟩, hJs⟩
set_option maxHeartbeats 1000000 in
theorem back_in (F : Fence) (n : Nat) (h5 : F.fn 228) (hro : F.round = none) (a : Option Addr) (len cap : Nat) (w : World) :
    CallsIn F n Tryz.prog 228 #[.slice a len cap] w fun e w' => e = .returned (.func (.func 252) #[] #[.pointer (some ⟨w.heap.size, 0, none⟩)]) ∧ w' = w.alloc (.cells #[.slice a len cap] 25) := by
  refine callsIn_of_wp Tryz.func228 rfl h5 ?_ hro
  simp only [Tryz.ntmps228, List.size_toArray, List.length_cons, List.length_nil, Nat.reduceAdd, Nat.reduceSub, Array.replicate_succ, Array.replicate_zero, List.push_toArray, List.append_toArray, List.nil_append, List.cons_append]
  gi_wp2
  go_ret
  exact ⟨rfl, rfl⟩
def Flds3 (n₀ : Nat) (W : World) (sv : Value) (zs : List Row3) : Prop :=
  (zs = [] ∧ ∃ p cap, sv = .slice p 0 cap) ∨ ∃ b off cap, sv = .slice (some ⟨b, off, none⟩) zs.length cap ∧ b < n₀ ∧ Cells3 W b off zs
theorem Flds3.below {n₀ : Nat} {A B : World} (h : Below n₀ A B) {sv : Value} {zs : List Row3} : Flds3 n₀ A sv zs → Flds3 n₀ B sv zs
  | .inl e => .inl e
  | .inr ⟨b, off, cap, e, hb, hc⟩ => .inr ⟨b, off, cap, e, hb, hc.below h hb⟩
theorem Flds3.mono {n n' : Nat} (h : n ≤ n') {W : World} {sv : Value} {zs : List Row3} : Flds3 n W sv zs → Flds3 n' W sv zs
  | .inl e => .inl e
  | .inr ⟨b, off, cap, e, hb, hc⟩ => .inr ⟨b, off, cap, e, Nat.lt_of_lt_of_le hb h, hc⟩
theorem back_stops (F : Fence) (n : Nat) (h8 : F.fn 252) (hro : F.round = none) (hn : 1 ≤ n) (Bs : Nat) (sv : Value) (zs : List Row3) (hreach : zs.length ≤ 1000000000) (w : World) (hBs : Bs < w.heap.size)
    (hc : w.cell? ⟨Bs, 0, none⟩ = some sv) (hI : Flds3 w.heap.size w sv zs) :
    SeqStopsK F n Tryz.prog 252 #[.pointer (some ⟨Bs, 0, none⟩)] (fun x : Nat × Row3 => #[Value.int .i64 (x.1 : Int), row3 x.2]) (Below w.heap.size) (fun ys => ys = back zs zs.length)
      (fun pre => ∃ k, k ≤ zs.length ∧ pre = back zs k) zs.length w := fun l J Jx W hW _ _ hY h0 => by
  have hc' := (hW.cell (p := ⟨Bs, 0, none⟩) hBs).trans hc
  rcases hI.below hW with ⟨rfl, p, cap, rfl⟩ | ⟨b, off, cap, rfl, hb, hcs⟩
  · exact (back1_nil_in F n h8 hro l Bs p cap J W hc' h0).mono fun e W' ⟨he, hj⟩ => ⟨he, .inl ⟨_, rfl, hj⟩⟩
  · exact back1_in F n h8 hro hn l Bs w.heap.size b off cap zs hreach hb hBs J Jx hY W hc' hcs h0
def latest (zs : List Row3) (x : ByteArray) : Option Row3 := zs.reverse.find? fun z => decide (z.1 = x)
def lookV (zs : List Row3) (x : ByteArray) (z0 z1 : Value) : Value := match latest zs x with
  | some z => .tuple #[.agg #[z.k, z.f], .bool true]
  | none => .tuple #[.agg #[z0, z1], .bool false]
theorem back_map (zs : List Row3) {k : Nat} (hk : k ≤ zs.length) : (back zs k).map (·.2) = zs.reverse.take k := by
  apply List.ext_getElem
  · simp [back, hk]
  · intro i h1 h2
    have hi : i < k := by simpa [back] using h1
    have h3 : zs.length - 1 - i < zs.length := by omega
    simp [back, h3]
theorem latest_none {zs : List Row3} {x : ByteArray} (h : ∀ p ∈ back zs zs.length, p.2.1 ≠ x) : latest zs x = none := by
  unfold latest
  rw [List.find?_eq_none]
  intro z hz
  have hm := back_map zs (Nat.le_refl _)
  rw [List.take_of_length_le (by simp)] at hm
  rw [← hm] at hz
  obtain ⟨p, hp, rfl⟩ := List.mem_map.1 hz
  simpa using h p hp
theorem latest_some {zs : List Row3} {x : ByteArray} {k : Nat} (hk : k ≤ zs.length) {ini : List (Nat × Row3)} {last : Nat × Row3} (e1 : back zs k = ini ++ [last]) (e2 : ∀ p ∈ ini, p.2.1 ≠ x) (e3 : last.2.1 = x) : latest zs x = some last.2 := by
  have hm := back_map zs hk
  rw [e1, List.map_append] at hm
  unfold latest
  rw [← List.take_append_drop k zs.reverse, ← hm, List.append_assoc, List.find?_append]
  have h1 : (ini.map (·.2)).find? (fun z => decide (z.1 = x)) = none := by
    rw [List.find?_eq_none]
    intro z hz
    obtain ⟨p, hp, rfl⟩ := List.mem_map.1 hz
    simpa using e2 p hp
  rw [h1]
  simp [e3]
def RowIs (W : World) (B : Nat) (t : TypeId) (cs : Array Value) : Prop := W.heap[B]? = some (.cells cs t (0, 0))
theorem RowIs.lt {W : World} {B : Nat} {t : TypeId} {cs : Array Value} (h : RowIs W B t cs) : B < W.heap.size := (Array.getElem?_eq_some_iff.1 h).1
theorem RowIs.cell {W : World} {B : Nat} {t : TypeId} {cs : Array Value} (h : RowIs W B t cs) (o : Nat) : W.cell? ⟨B, o, none⟩ = cs[o]? := by simp [World.cell?, show W.heap[B]? = _ from h]
theorem RowIs.frozen {W : World} {B : Nat} {t : TypeId} {cs : Array Value} (h : RowIs W B t cs) (o : Nat) : W.frozen? ⟨B, o, none⟩ = false := by simp [World.frozen?, show W.heap[B]? = _ from h]
theorem RowIs.new (W : World) (t : TypeId) (cs : Array Value) : RowIs (W.alloc (.cells cs t)) W.heap.size t cs := World.alloc_heap_new W _
theorem RowIs.kept {W W' : World} {row : Option Nat} {B : Nat} {t : TypeId} {cs : Array Value} (h : RowIs W B t cs) (hg : W.grownBy W' row) (hne : some B ≠ row) : RowIs W' B t cs := (hg.block B h.lt hne).trans h
theorem RowIs.alloc {W : World} {B : Nat} {t : TypeId} {cs : Array Value} (h : RowIs W B t cs) (o : Obj) : RowIs (W.alloc o) B t cs := h.kept (World.grownBy_alloc W o none) (by simp)
theorem RowIs.put {W : World} {B : Nat} {t : TypeId} {cs : Array Value} (h : RowIs W B t cs) {l : Nat} {o : Obj} (o' : Obj) (hl : W.heap[l]? = some o) (ho : o.isCells = false) : RowIs (W.putObj l o') B t cs :=
  h.kept (grownBy_putObj' W l o') (fun e => by cases e; rw [show W.heap[B]? = _ from h] at hl; cases hl; cases ho)
theorem grown_setCell (W : World) (b o : Nat) (v : Value) : W.grownBy (W.setCell ⟨b, o, none⟩ v) (some b) :=
  ⟨rfl, rfl, rfl, (KeepsWalks.setCell W _ v).size, fun k _ hk => Below.heap_setCell _ _ _ k (fun e => hk (by rw [e]))⟩
theorem RowIs.other {W : World} {B B' o : Nat} {t : TypeId} {cs : Array Value} (h : RowIs W B t cs) (hne : B ≠ B') (u : Value) : RowIs (W.setCell ⟨B', o, none⟩ u) B t cs := h.kept (grown_setCell W B' o u) (fun e => hne (by cases e; rfl))
theorem RowIs.set {W : World} {B : Nat} {t : TypeId} {cs : Array Value} (h : RowIs W B t cs) (o : Nat) (v : Value) : RowIs (W.setCell ⟨B, o, none⟩ v) B t (cs.setIfInBounds o v) := by
  obtain ⟨hlt, hk⟩ := Array.getElem?_eq_some_iff.1 h
  show (W.heap.modify B _)[B]? = _
  rw [Array.getElem?_eq_getElem (by rw [Array.size_modify]; exact hlt), Array.getElem_modify_self, hk]
  rfl
theorem bytes_eq {x y : ByteArray} (h : (x.toList == y.toList) = true) : x = y := by
  have := beq_iff_eq.1 h
  rw [ByteArray.toList_eq, ByteArray.toList_eq] at this
  exact ByteArray.ext (Array.ext' this)
theorem bytes_ne {x y : ByteArray} (h : (x.toList == y.toList) = false) : x ≠ y := by
  rintro rfl
  simp at h
theorem rowIs_own {β : Type} (B : Nat) (t : TypeId) (f : β → Array Value) : Own (fun s W => RowIs W B t (f s)) := fun s X Y row hs hg hrow =>
  hs.kept hg (fun e' => by obtain ⟨o, ho, hc⟩ := hrow B e'.symm; rw [show X.heap[B]? = _ from hs] at ho; cases ho; cases hc)
set_option maxRecDepth 100000 in
set_option maxHeartbeats 4000000 in
theorem look_in (F : Fence) (n : Nat) (h3 : F.fn 181) (h5 : F.fn 228) (h7 : F.fn 252) (hro : F.round = none) (hn : 3 ≤ n) (a : Option Addr) (len cap : Nat) (x : ByteArray) (zs : List Row3) (hreach : zs.length ≤ 1000000000) (w : World) (hI : Flds3 w.heap.size w (.slice a len cap) zs) :
    CallsIn F n Tryz.prog 181 #[.slice a len cap, .string x] w fun e W' => e = .returned (lookV zs x (.int .i64 0) (.slice none 0 0)) ∧ Below w.heap.size w W' := by
  have h1 : 1 ≤ n := by omega
  refine callsIn_of_wp_marks Tryz.func181 rfl h3 ?_ hro
  simp only [Tryz.ntmps181, List.size_toArray, List.length_cons, List.length_nil, Nat.reduceAdd, Nat.reduceSub, Array.replicate_succ, Array.replicate_zero, List.push_toArray, List.append_toArray, List.nil_append, List.cons_append]
  gi_wp2_with (gi_at_call 228; refine (back_in F (n - 1) h5 hro _ _ _ _).mono ?_; rintro e w' ⟨rfl, rfl⟩)
  have b0 := (((RowIs.new w 9 #[.string x]).alloc (.cells #[.int .i64 0, .slice none 0 0] 27)).alloc (.cells #[.bool false] 4)).alloc (.cells #[.slice a len cap] 25)
  have b1 := ((RowIs.new (w.alloc (.cells #[.string x] 9)) 27 #[.int .i64 0, .slice none 0 0]).alloc (.cells #[.bool false] 4)).alloc (.cells #[.slice a len cap] 25)
  have b2 := (RowIs.new ((w.alloc (.cells #[.string x] 9)).alloc (.cells #[.int .i64 0, .slice none 0 0] 27)) 4 #[.bool false]).alloc (.cells #[.slice a len cap] 25)
  have b3 := RowIs.new (((w.alloc (.cells #[.string x] 9)).alloc (.cells #[.int .i64 0, .slice none 0 0] 27)).alloc (.cells #[.bool false] 4)) 25 #[.slice a len cap]
  simp only [World.size_alloc] at b1 b2 b3
  have hB0 : Below w.heap.size w ((((w.alloc (.cells #[.string x] 9)).alloc (.cells #[.int .i64 0, .slice none 0 0] 27)).alloc (.cells #[.bool false] 4)).alloc (.cells #[.slice a len cap] 25)) :=
    ((((Below.refl _ w).alloc (Nat.le_refl _) _).alloc (by simp) _).alloc (by simp; omega) _).alloc (by simp; omega) _
  have hsz : ((((w.alloc (.cells #[.string x] 9)).alloc (.cells #[.int .i64 0, .slice none 0 0] 27)).alloc (.cells #[.bool false] 4)).alloc (.cells #[.slice a len cap] 25)).heap.size = w.heap.size + 4 := by simp
  obtain ⟨W0, hW0⟩ : ∃ W0, ((((w.alloc (.cells #[.string x] 9)).alloc (.cells #[.int .i64 0, .slice none 0 0] 27)).alloc (.cells #[.bool false] 4)).alloc (.cells #[.slice a len cap] 25)) = W0 := ⟨_, rfl⟩
  rw [hW0] at b0 b1 b2 b3 hB0 hsz ⊢
  clear hW0
  refine wpIn_rangeFunc_ownH hro h1 (gf := 252) (lb := #[.pointer (some ⟨w.heap.size + 1 + 1 + 1, 0, none⟩)]) rfl h7 (enters_of Tryz.func252 (by kernel_rfl) rfl)
    (back_stops F (n - 1) h7 hro (by omega) (w.heap.size + 1 + 1 + 1) _ zs hreach W0 (by omega) (b3.cell 0) ((hI.below hB0).mono (by omega))) belowK_t (belowK_b (Nat.le_refl _)) (Below.refl _ _) (fun _ => rfl)
    (fun pre W => (∀ p ∈ pre, p.2.1 ≠ x) ∧ (RowIs W w.heap.size 9 #[.string x] ∧ RowIs W (w.heap.size + 1) 27 #[.int .i64 0, .slice none 0 0] ∧ RowIs W (w.heap.size + 1 + 1) 4 #[.bool false] ∧ RowIs W (w.heap.size + 1 + 1 + 1) 25 #[.slice a len cap]) ∧ Below w.heap.size w W)
    (fun c pre W => (c = .ret ∧ ∃ ini last, pre = ini ++ [last] ∧ (∀ p ∈ ini, p.2.1 ≠ x) ∧ last.2.1 = x ∧ RowIs W (w.heap.size + 1) 27 #[last.2.k, last.2.f] ∧ RowIs W (w.heap.size + 1 + 1) 4 #[.bool true]) ∧ Below w.heap.size w W)
    ?hI ?hIx ⟨fun _ h => (by cases h), ⟨b0, b1, b2, b3⟩, hB0⟩
    (fun y a' W => ∃ Bx, RowIs W Bx 76 #[.string y.2.1, y.2.k, y.2.f] ∧ a' = { tmps := #[.slice a len cap, .string x, undef, .pointer (some ⟨w.heap.size, 0, none⟩), .pointer (some ⟨w.heap.size + 1, 0, none⟩), .pointer (some ⟨w.heap.size + 1 + 1, 0, none⟩), undef, .pointer (some ⟨Bx, 0, none⟩), .slice a len cap, .func (.func 252) #[] #[.pointer (some ⟨w.heap.size + 1 + 1 + 1, 0, none⟩)], .int .i64 (y.1 : Int), row3 y.2, undef, undef, undef, undef, undef, undef, undef], defers := [] })
    (fun y a' _ X Y row hs hg hr => by obtain ⟨Bx, h2, h3⟩ := hs; exact ⟨Bx, rowIs_own Bx 76 (fun (_ : Unit) => #[Value.string y.2.1, y.2.k, y.2.f]) () X Y row h2 hg (fun r e => (hr r e).2), h3⟩)
    ?assign ?body ?done ?stop
  case hI => exact OwnFrom.and (ownFrom_pure _ _) (OwnFrom.and (OwnFrom.and (Own.from (rowIs_own _ _ _) _) (OwnFrom.and (Own.from (rowIs_own _ _ _) _) (OwnFrom.and (Own.from (rowIs_own _ _ _) _) (Own.from (rowIs_own _ _ _) _)))) (ownFrom_below (Nat.le_refl _) (by omega)))
  case hIx =>
    intro c
    refine OwnFrom.and (Own.from (fun s A B row hs hg hr => ?_) _) (ownFrom_below (Nat.le_refl _) (by omega))
    obtain ⟨hc, ini, last, e1, e2, e3, e4, e5⟩ := hs
    exact ⟨hc, ini, last, e1, e2, e3, rowIs_own _ _ (fun (_ : Unit) => #[last.2.k, last.2.f]) () A B row e4 hg hr, rowIs_own _ _ (fun (_ : Unit) => #[Value.bool true]) () A B row e5 hg hr⟩
  case assign =>
    rintro l pre y W K ⟨hp, ⟨r0, r1, r2, r3⟩, hB⟩ hK
    obtain ⟨yi, y1, y2, y3, y4, y5⟩ := y
    simp only [row3, Row3.k, Row3.f] at hK ⊢
    gi_wp2
    exact hK _ _ ((KeepsOthers.alloc _ _).from _) ((Below.refl _ W).alloc (by have := r3.lt; omega) _) ⟨hp, ⟨r0.alloc _, r1.alloc _, r2.alloc _, r3.alloc _⟩, hB.alloc hB.size _⟩ ⟨W.heap.size, RowIs.new W _ _, rfl⟩
  case body =>
    rintro l pre y a' W hl ⟨r, hr⟩ ⟨hp, ⟨r0, r1, r2, r3⟩, hB⟩ ⟨Bx, rx, rfl⟩ hlt
    obtain ⟨yi, y1, y2, y3, y4, y5⟩ := y
    simp only [row3, Row3.k, Row3.f] at rx ⊢
    have c0 := r0.cell 0
    have cx0 := rx.cell 0
    have cx1 := rx.cell 1
    have cx2 := rx.cell 2
    have f10 := r1.frozen 0
    have f11 := r1.frozen 1
    have f20 := r2.frozen 0
    have c10 := r1.cell 0
    have c11 := r1.cell 1
    have c20 := r2.cell 0
    simp at c0 cx0 cx1 cx2 c10 c11 c20
    gi_wp2
    · have hx : y1 = x := bytes_eq (by assumption)
      have r1' := ((r1.set 0 (.int .i64 y2)).set 1 (.slice y3 y4 y5)).other (B' := w.heap.size + 1 + 1) (o := 0) (by omega) (.bool true)
      have r2' := ((r2.other (B' := w.heap.size + 1) (o := 0) (by omega) (.int .i64 y2)).other (B' := w.heap.size + 1) (o := 1) (by omega) (.slice y3 y4 y5)).set 0 (.bool true)
      exact ⟨(((KeepsOthers.setCell _ _ _).trans (KeepsOthers.setCell _ _ _)).trans (KeepsOthers.setCell _ _ _)).from _, ⟨rfl, pre, (yi, y1, y2, y3, y4, y5), rfl, hp, hx, r1', r2'⟩,
        ((hB.setCell (p := ⟨w.heap.size + 1, 0, none⟩) (by simp) _).setCell (p := ⟨w.heap.size + 1, 1, none⟩) (by simp) _).setCell (p := ⟨w.heap.size + 1 + 1, 0, none⟩) (by simp; omega) _⟩
    · have hx : y1 ≠ x := bytes_ne (by assumption)
      exact ⟨KeepsFrom.refl _ _, Below.refl _ _, fun p hp' => (List.mem_append.1 hp').elim (hp p) (fun e => by simp at e; subst e; exact hx), ⟨r0, r1, r2, r3⟩, hB⟩
  case done =>
    rintro D ys W hD rfl ⟨hne, ⟨r0, r1, r2, r3⟩, hB⟩ hK
    have f10 := r1.frozen 0
    have f11 := r1.frozen 1
    have f20 := r2.frozen 0
    have c10 := r1.cell 0
    have c11 := r1.cell 1
    have c20 := r2.cell 0
    simp at c10 c11 c20
    gi_wp2
    have r1' := ((r1.set 0 (.int .i64 0)).set 1 (.slice none 0 0)).other (B' := w.heap.size + 1 + 1) (o := 0) (by omega) (.bool false)
    have r2' := ((r2.other (B' := w.heap.size + 1) (o := 0) (by omega) (.int .i64 0)).other (B' := w.heap.size + 1) (o := 1) (by omega) (.slice none 0 0)).set 0 (.bool false)
    have hB' := ((hB.setCell (p := ⟨w.heap.size + 1, 0, none⟩) (by simp) (.int .i64 0)).setCell (p := ⟨w.heap.size + 1, 1, none⟩) (by simp) (.slice none 0 0)).setCell (p := ⟨w.heap.size + 1 + 1, 0, none⟩) (by simp; omega) (.bool false)
    have hK' := (((KeepsOthers.setCell W ⟨w.heap.size + 1, 0, none⟩ (.int .i64 0)).trans (KeepsOthers.setCell _ ⟨w.heap.size + 1, 1, none⟩ (.slice none 0 0))).trans (KeepsOthers.setCell _ ⟨w.heap.size + 1 + 1, 0, none⟩ (.bool false))).same D _ hK rfl
    refine ⟨by simp, .inl ⟨_, _, rfl, run_takeDeferred hK', ?_⟩⟩
    have q10 := (r1'.put (.deferred none) hK' rfl).cell 0
    have q11 := (r1'.put (.deferred none) hK' rfl).cell 1
    have q20 := (r2'.put (.deferred none) hK' rfl).cell 0
    simp at q10 q11 q20
    refine ⟨.tuple #[.agg #[.int .i64 0, .slice none 0 0], .bool false], ?_, ?_, hB'.trans (belowK_b (w := w) (Nat.le_refl _) _ D _ _ (by omega) hK' rfl rfl)⟩
    rotate_left
    · unfold lookV
      rw [latest_none hne]
    · simp [results, Tryz.f181, go_sem, q10, q11, q20]
  case stop =>
    rintro D c pre W hD ⟨k, hk, rfl⟩ ⟨⟨rfl, ini, last, e1, e2, e3, r1, r2⟩, hB⟩ hK
    gi_wp2
    refine ⟨by simp, .inl ⟨_, _, rfl, run_takeDeferred hK, ?_⟩⟩
    have q10 := (r1.put (.deferred none) hK rfl).cell 0
    have q11 := (r1.put (.deferred none) hK rfl).cell 1
    have q20 := (r2.put (.deferred none) hK rfl).cell 0
    simp at q10 q11 q20
    refine ⟨.tuple #[.agg #[last.2.k, last.2.f], .bool true], ?_, ?_, hB.trans (belowK_b (w := w) (Nat.le_refl _) W D _ _ (by omega) hK rfl rfl)⟩
    rotate_left
    · unfold lookV
      rw [latest_some hk e1 e2 e3]
    · simp [results, Tryz.f181, go_sem, q10, q11, q20]
end Go.Proofs.YteemeakjlfnapaaGreatDoor
