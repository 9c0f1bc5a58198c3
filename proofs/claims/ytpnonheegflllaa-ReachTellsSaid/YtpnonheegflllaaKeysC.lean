/- The iterators of maps.Keys: the keys come, each once, in some order. No condition. -/
import Derived.RangeFuncNested
import Derived.RangeFuncBound
import Derived.RangeFuncCalls
import Derived.RangeFuncLeaves
import Derived.Shelf.Abstract
import Derived.Shelf.RegionOpen
import Derived.WalkKit
import Derived.OwnWalkIn
import Derived.TacticsInMore
import Derived.LoopNIn
import Derived.LoopIn
import Derived.Test.YtpnonheegflllaaLb
import Derived.Test.YtpnonheegflllaaProg
namespace Go.Proofs.Ytpnonheegflllaa
open Go Go.Av Go.RowKit Go.Shelf
attribute [local go_sem] Oper.semAt_some
abbrev Row2 := ByteArray × ByteArray
def row2 (x : Row2) : Value := .agg #[.string x.1, .string x.2]
set_option maxRecDepth 100000 in
set_option maxHeartbeats 2000000 in
theorem keys45_in (F : Fence) (n : Nat) (h10 : F.fn 45) (hro : F.round = none) (hn : 1 ≤ n) (l Bm Bo b : Nat) (es : Array MapEntry) (clock : Nat) (ks : List Row2) (hks : es.toList.map (·.key) = ks.map row2) (hst : Stamps es.toList clock) (J Jx : List Row2 → World → Prop)
    (hY : ∀ pre x W, J pre W → pre.length < ks.length → YieldAt F (n - 1) Try.prog l #[row2 x] W fun e W' =>
      (e = .returned (.bool true) ∧ J (pre ++ [x]) W' ∧ KeepsWalks W W') ∨ (e = .returned (.bool false) ∧ Jx (pre ++ [x]) W'))
    (W : World) (hJ : AbidesFrom W.heap.size J) (hm : W.cell? ⟨Bm, Bo, none⟩ = some (.map (some b))) (hmap : W.heap[b]? = some (.map es clock)) (h0 : J [] W) :
    CallsIn F n Try.prog 45 #[.func (.yield l) #[] #[], .pointer (some ⟨Bm, Bo, none⟩)] W fun e W' => (∃ v, e = .returned v) ∧
      ((∃ ss : List Row2, ss.Perm ks ∧ J ss W') ∨ (∃ pre : List Row2, True ∧ Jx pre W')) := by
  have hbl : b < W.heap.size := (Array.getElem?_eq_some_iff.1 hmap).1
  have hlen : es.toList.length = ks.length := by have := congrArg List.length hks; simpa using this
  have hrg : (Instr.range 54 (.map (some b))).run Try.prog W = .ok (.pointer (some ⟨W.heap.size, 0, none⟩)) (W.alloc (.mapIter (some b) clock #[] clock)) := by
    simp [Instr.range, run_underlying Try.underlying54, run_getI hmap (by simp)]
  refine callsIn_of_wp Try.func45 rfl h10 ?_ hro
  simp only [Try.ntmps45, List.size_toArray, List.length_cons, List.length_nil, Nat.reduceAdd, Nat.reduceSub, Array.replicate_succ, Array.replicate_zero, List.push_toArray, List.append_toArray, List.nil_append, List.cons_append]
  gi_wp2_with (first
    | (gi_at_range; refine wpListIn_range_run rfl _ 54 rfl hrg ?_)
    | gi_in)
  have hg0 : W.grownBy (W.alloc (.mapIter (some b) clock #[] clock)) none := World.grownBy_alloc W _ none
  have hit0 : (W.alloc (.mapIter (some b) clock #[] clock)).heap[W.heap.size]? = some (.mapIter (some b) clock #[] clock) := World.alloc_heap_new W _
  have hmp0 : (W.alloc (.mapIter (some b) clock #[] clock)).heap[b]? = some (.map es clock) := (alloc_old W _ hbl).trans hmap
  have hJ0 := hJ [] W _ none h0 hg0 (fun r e => by cases e)
  generalize (W.alloc (.mapIter (some b) clock #[] clock)) = W0 at hit0 hmp0 hJ0 ⊢
  go_frame
  gi_loopw [3] (fun _ wr => ∃ (seen : Array Nat) (last : Nat) (ss : List Row2), wr.heap[W.heap.size]? = some (.mapIter (some b) clock seen last) ∧ clock ≤ last ∧ wr.heap[b]? = some (.map es clock) ∧ (ss ++ (leftPos es.toList seen).map (fun i => ks[i]!)).Perm ks ∧ J ss wr)
    (fun _ wr => leftNum wr W.heap.size b)
  case atStart =>
    refine ⟨#[], clock, [], hit0, Nat.le_refl _, hmp0, ?_, hJ0⟩
    rw [leftPos_nil, hlen, List.nil_append]
    have : (List.range ks.length).map (fun i => ks[i]!) = ks := by
      apply List.ext_getElem
      · simp
      · intro i h1 h2; simp [List.getElem?_eq_getElem h2]
    rw [this]
  case round =>
    obtain ⟨seen, last, ss, hit, hcl, hmp, hpm, hJs⟩ := hrel
    have hls : ss.length + (leftPos es.toList seen).length = ks.length := by have := hpm.length_eq; simpa using this
    have hiW : W.heap.size < wr.heap.size := (Array.getElem?_eq_some_iff.1 hit).1
    gi_wp2_with (first
      | (gi_at_next; refine wpListIn_next_map rfl _ rfl rfl hit hmp hst.1 hcl ?_ ?_)
      | gi_in)
    · intro i1
      gi_wp2
      go_end0
      rw [i1] at hpm
      exact ⟨⟨_, rfl⟩, .inl ⟨ss, by simpa using hpm, hJs⟩⟩
    · intro i u w1 i1 i2 i3
      have i2 : es.toList[i]? = some u := by simpa using i2
      have hil : i < ks.length := by rw [← hlen]; exact lt_of_get i2
      have hue : u.key = row2 ks[i]! := by
        have : (es.toList.map (·.key))[i]? = (ks.map row2)[i]? := by rw [hks]
        rw [List.getElem?_map, List.getElem?_map, i2, List.getElem?_eq_getElem hil] at this
        simp only [Option.map_some, Option.some.injEq] at this
        rw [this, getElem!_pos ks i hil]
      have hperm := filter_perm (leftPos_nodup es.toList seen) i1
      have hpush := leftPos_push hst.2 (seen := seen) i2
      have hg1 : wr.grownBy w1 none := by rcases i3 with rfl | rfl; exact ⟨rfl, rfl, rfl, Nat.le_refl _, fun _ _ _ => rfl⟩; exact grown_drew _
      obtain ⟨w2, hw2⟩ : ∃ w2, setBlk w1 W.heap.size (.mapIter (some b) clock (seen.push u.born) clock) = w2 := ⟨_, rfl⟩
      have hw1 : w1.heap = wr.heap := by rcases i3 with rfl | rfl <;> rfl
      have hit2 : w2.heap[W.heap.size]? = some (.mapIter (some b) clock (seen.push u.born) clock) := by rw [← hw2]; exact setBlk_new _ (by rw [hw1]; exact hiW)
      have hmp2 : w2.heap[b]? = some (.map es clock) := by rw [← hw2, setBlk_old _ _ _ (by omega), hw1]; exact hmp
      have hJ1 : J ss w1 := hJ ss wr w1 none hJs hg1 (fun r e => by cases e)
      have hJ2 : J ss w2 := by
        rw [← hw2]
        exact hJ ss w1 _ (some W.heap.size) hJ1 (grown_setBlk w1 _ _) (fun r e => by cases e; exact ⟨Nat.le_refl _, _, by rw [hw1]; exact hit, rfl⟩)
      have hen := run_entryM (P := Try.prog) hit2 hmp2 hst i2
      rw [hue] at hen
      rw [hw2, hue]
      clear hw2
      have hsl : ss.length < ks.length := by have := hperm.length_eq; simp at this; omega
      generalize hkx : ks[i]! = kx at hen hue ⊢
      obtain ⟨k1, k2⟩ := kx
      have hJ3 : J ss (w2.alloc (.cells #[.string k1, .string k2] 24)) := hJ ss w2 _ none hJ2 (World.grownBy_alloc w2 _ none) (fun r e => by cases e)
      have hit3 : (w2.alloc (.cells #[.string k1, .string k2] 24)).heap[W.heap.size]? = some (.mapIter (some b) clock (seen.push u.born) clock) := (alloc_old w2 _ (Array.getElem?_eq_some_iff.1 hit2).1).trans hit2
      have hmp3 : (w2.alloc (.cells #[.string k1, .string k2] 24)).heap[b]? = some (.map es clock) := (alloc_old w2 _ (Array.getElem?_eq_some_iff.1 hmp2).1).trans hmp2
      obtain ⟨fn, tmps, assign, body, hy, hR⟩ := hY ss (k1, k2) _ hJ3 hsl
      simp only [row2] at hen hy ⊢
      gi_wp2
      refine hR.mono ?_
      rintro e W3 (⟨rfl, hJ3, hk3⟩ | ⟨rfl, hJx3⟩)
      · gi_wp2
        have hit3 := hk3.same _ _ hit3 rfl
        have hmp3 := hk3.same _ _ hmp3 rfl
        go_roundw
        case rel =>
          refine ⟨_, _, ss ++ [(k1, k2)], hit3, Nat.le_refl _, hmp3, ?_, hJ3⟩
          rw [hpush]
          refine List.Perm.trans ?_ hpm
          rw [List.append_assoc]
          refine List.Perm.append_left ss ?_
          exact ((hperm.map fun i => ks[i]!).trans (by rw [List.map_cons, hkx]; rfl)).symm
        case measure =>
          simp only [leftNum, hit3, hmp3, hit, hmp, hpush]
          have := hperm.length_eq
          simp at this
          omega
      · gi_wp2
        refine bodyPost_ret (results_none rfl _ _ _) rfl ?_
        exact ⟨⟨_, rfl⟩, .inr ⟨ss ++ [(k1, k2)], trivial, hJx3⟩⟩
set_option maxRecDepth 100000 in
set_option maxHeartbeats 1000000 in
theorem keysN45_in (F : Fence) (n : Nat) (h10 : F.fn 45) (hro : F.round = none) (l Bm Bo : Nat) (J : List Row2 → World → Prop) (W : World) (hJ : AbidesFrom W.heap.size J) (hm : W.cell? ⟨Bm, Bo, none⟩ = some (.map none)) (h0 : J [] W) :
    CallsIn F n Try.prog 45 #[.func (.yield l) #[] #[], .pointer (some ⟨Bm, Bo, none⟩)] W fun e W' => (∃ v, e = .returned v) ∧ J [] W' := by
  have hrg : (Instr.range 54 (.map none)).run Try.prog W = .ok (.pointer (some ⟨W.heap.size, 0, none⟩)) (W.alloc (.mapIter none 0 #[] 0)) := by
    simp [Instr.range, run_underlying Try.underlying54]
  refine callsIn_of_wp Try.func45 rfl h10 ?_ hro
  simp only [Try.ntmps45, List.size_toArray, List.length_cons, List.length_nil, Nat.reduceAdd, Nat.reduceSub, Array.replicate_succ, Array.replicate_zero, List.push_toArray, List.append_toArray, List.nil_append, List.cons_append]
  gi_wp2_with (first
    | (gi_at_range; refine wpListIn_range_run rfl _ 54 rfl hrg ?_)
    | gi_in)
  have hit0 : (W.alloc (.mapIter none 0 #[] 0)).heap[W.heap.size]? = some (.mapIter none 0 #[] 0) := World.alloc_heap_new W _
  have hJ0 := hJ [] W _ none h0 (World.grownBy_alloc W (.mapIter none 0 #[] 0) none) (fun r e => by cases e)
  generalize (W.alloc (.mapIter none 0 #[] 0)) = W0 at hit0 hJ0 ⊢
  have hnx : ∀ ty, (Instr.next (.pointer (some ⟨W.heap.size, 0, none⟩)) false ty).run Try.prog W0 = .ok (.tuple #[.bool false]) W0 := fun ty => by
    simp [Instr.next, run_getI hit0 (by simp)]
  go_frame
  gi_loopw [3] (fun _ wr => wr = W0) (fun _ _ => 0)
  case atStart => rfl
  case round =>
    subst hrel
    gi_wp2_with (first
      | (gi_at_next; refine wpListIn_next_run rfl _ rfl (hnx _) ?_)
      | gi_in)
    go_end0
    exact ⟨⟨_, rfl⟩, hJ0⟩
theorem keys45_stops (F : Fence) (n : Nat) (h10 : F.fn 45) (hro : F.round = none) (hn : 1 ≤ n) (Bm Bo : Nat) (ks : List Row2) (w : World) (hBm : Bm < w.heap.size)
    (hc : (w.cell? ⟨Bm, Bo, none⟩ = some (.map none) ∧ ks = []) ∨ ∃ b es clock, w.cell? ⟨Bm, Bo, none⟩ = some (.map (some b)) ∧ w.heap[b]? = some (.map es clock) ∧ Stamps es.toList clock ∧ es.toList.map (·.key) = ks.map row2) :
    SeqStopsK F n Try.prog 45 #[.pointer (some ⟨Bm, Bo, none⟩)] (fun x : Row2 => #[row2 x]) KeepsWalks (fun ss => ss.Perm ks) (fun _ => True) ks.length w := fun l J Jx W hW hJ _ hY h0 => by
  rcases hc with ⟨hc, rfl⟩ | ⟨b, es, clock, hc, hmap, hst, hks⟩
  · exact (keysN45_in F n h10 hro l Bm Bo J W hJ ((hW.cell (p := ⟨Bm, Bo, none⟩) hBm).trans hc) h0).mono fun e W' ⟨he, hj⟩ => ⟨he, .inl ⟨[], .refl _, hj⟩⟩
  · exact keys45_in F n h10 hro hn l Bm Bo b es clock ks hks hst J Jx hY W hJ ((hW.cell (p := ⟨Bm, Bo, none⟩) hBm).trans hc) ((hW.block b (Array.getElem?_eq_some_iff.1 hmap).1).trans hmap) h0
set_option maxRecDepth 100000 in
set_option maxHeartbeats 2000000 in
theorem keys52_in (F : Fence) (n : Nat) (h10 : F.fn 52) (hro : F.round = none) (hn : 1 ≤ n) (l Bm Bo b : Nat) (es : Array MapEntry) (clock : Nat) (ks : List Row2) (hks : es.toList.map (·.key) = ks.map row2) (hst : Stamps es.toList clock) (J Jx : List Row2 → World → Prop)
    (hY : ∀ pre x W, J pre W → pre.length < ks.length → YieldAt F (n - 1) Try.prog l #[row2 x] W fun e W' =>
      (e = .returned (.bool true) ∧ J (pre ++ [x]) W' ∧ KeepsWalks W W') ∨ (e = .returned (.bool false) ∧ Jx (pre ++ [x]) W'))
    (W : World) (hJ : AbidesFrom W.heap.size J) (hm : W.cell? ⟨Bm, Bo, none⟩ = some (.map (some b))) (hmap : W.heap[b]? = some (.map es clock)) (h0 : J [] W) :
    CallsIn F n Try.prog 52 #[.func (.yield l) #[] #[], .pointer (some ⟨Bm, Bo, none⟩)] W fun e W' => (∃ v, e = .returned v) ∧
      ((∃ ss : List Row2, ss.Perm ks ∧ J ss W') ∨ (∃ pre : List Row2, True ∧ Jx pre W')) := by
  have hbl : b < W.heap.size := (Array.getElem?_eq_some_iff.1 hmap).1
  have hlen : es.toList.length = ks.length := by have := congrArg List.length hks; simpa using this
  have hrg : (Instr.range 83 (.map (some b))).run Try.prog W = .ok (.pointer (some ⟨W.heap.size, 0, none⟩)) (W.alloc (.mapIter (some b) clock #[] clock)) := by
    simp [Instr.range, run_underlying Try.underlying83, run_getI hmap (by simp)]
  refine callsIn_of_wp Try.func52 rfl h10 ?_ hro
  simp only [Try.ntmps52, List.size_toArray, List.length_cons, List.length_nil, Nat.reduceAdd, Nat.reduceSub, Array.replicate_succ, Array.replicate_zero, List.push_toArray, List.append_toArray, List.nil_append, List.cons_append]
  gi_wp2_with (first
    | (gi_at_range; refine wpListIn_range_run rfl _ 83 rfl hrg ?_)
    | gi_in)
  have hg0 : W.grownBy (W.alloc (.mapIter (some b) clock #[] clock)) none := World.grownBy_alloc W _ none
  have hit0 : (W.alloc (.mapIter (some b) clock #[] clock)).heap[W.heap.size]? = some (.mapIter (some b) clock #[] clock) := World.alloc_heap_new W _
  have hmp0 : (W.alloc (.mapIter (some b) clock #[] clock)).heap[b]? = some (.map es clock) := (alloc_old W _ hbl).trans hmap
  have hJ0 := hJ [] W _ none h0 hg0 (fun r e => by cases e)
  generalize (W.alloc (.mapIter (some b) clock #[] clock)) = W0 at hit0 hmp0 hJ0 ⊢
  go_frame
  gi_loopw [3] (fun _ wr => ∃ (seen : Array Nat) (last : Nat) (ss : List Row2), wr.heap[W.heap.size]? = some (.mapIter (some b) clock seen last) ∧ clock ≤ last ∧ wr.heap[b]? = some (.map es clock) ∧ (ss ++ (leftPos es.toList seen).map (fun i => ks[i]!)).Perm ks ∧ J ss wr)
    (fun _ wr => leftNum wr W.heap.size b)
  case atStart =>
    refine ⟨#[], clock, [], hit0, Nat.le_refl _, hmp0, ?_, hJ0⟩
    rw [leftPos_nil, hlen, List.nil_append]
    have : (List.range ks.length).map (fun i => ks[i]!) = ks := by
      apply List.ext_getElem
      · simp
      · intro i h1 h2; simp [List.getElem?_eq_getElem h2]
    rw [this]
  case round =>
    obtain ⟨seen, last, ss, hit, hcl, hmp, hpm, hJs⟩ := hrel
    have hls : ss.length + (leftPos es.toList seen).length = ks.length := by have := hpm.length_eq; simpa using this
    have hiW : W.heap.size < wr.heap.size := (Array.getElem?_eq_some_iff.1 hit).1
    gi_wp2_with (first
      | (gi_at_next; refine wpListIn_next_map rfl _ rfl rfl hit hmp hst.1 hcl ?_ ?_)
      | gi_in)
    · intro i1
      gi_wp2
      go_end0
      rw [i1] at hpm
      exact ⟨⟨_, rfl⟩, .inl ⟨ss, by simpa using hpm, hJs⟩⟩
    · intro i u w1 i1 i2 i3
      have i2 : es.toList[i]? = some u := by simpa using i2
      have hil : i < ks.length := by rw [← hlen]; exact lt_of_get i2
      have hue : u.key = row2 ks[i]! := by
        have : (es.toList.map (·.key))[i]? = (ks.map row2)[i]? := by rw [hks]
        rw [List.getElem?_map, List.getElem?_map, i2, List.getElem?_eq_getElem hil] at this
        simp only [Option.map_some, Option.some.injEq] at this
        rw [this, getElem!_pos ks i hil]
      have hperm := filter_perm (leftPos_nodup es.toList seen) i1
      have hpush := leftPos_push hst.2 (seen := seen) i2
      have hg1 : wr.grownBy w1 none := by rcases i3 with rfl | rfl; exact ⟨rfl, rfl, rfl, Nat.le_refl _, fun _ _ _ => rfl⟩; exact grown_drew _
      obtain ⟨w2, hw2⟩ : ∃ w2, setBlk w1 W.heap.size (.mapIter (some b) clock (seen.push u.born) clock) = w2 := ⟨_, rfl⟩
      have hw1 : w1.heap = wr.heap := by rcases i3 with rfl | rfl <;> rfl
      have hit2 : w2.heap[W.heap.size]? = some (.mapIter (some b) clock (seen.push u.born) clock) := by rw [← hw2]; exact setBlk_new _ (by rw [hw1]; exact hiW)
      have hmp2 : w2.heap[b]? = some (.map es clock) := by rw [← hw2, setBlk_old _ _ _ (by omega), hw1]; exact hmp
      have hJ1 : J ss w1 := hJ ss wr w1 none hJs hg1 (fun r e => by cases e)
      have hJ2 : J ss w2 := by
        rw [← hw2]
        exact hJ ss w1 _ (some W.heap.size) hJ1 (grown_setBlk w1 _ _) (fun r e => by cases e; exact ⟨Nat.le_refl _, _, by rw [hw1]; exact hit, rfl⟩)
      have hen := run_entryM (P := Try.prog) hit2 hmp2 hst i2
      rw [hue] at hen
      rw [hw2, hue]
      clear hw2
      have hsl : ss.length < ks.length := by have := hperm.length_eq; simp at this; omega
      generalize hkx : ks[i]! = kx at hen hue ⊢
      obtain ⟨k1, k2⟩ := kx
      have hJ3 : J ss (w2.alloc (.cells #[.string k1, .string k2] 24)) := hJ ss w2 _ none hJ2 (World.grownBy_alloc w2 _ none) (fun r e => by cases e)
      have hit3 : (w2.alloc (.cells #[.string k1, .string k2] 24)).heap[W.heap.size]? = some (.mapIter (some b) clock (seen.push u.born) clock) := (alloc_old w2 _ (Array.getElem?_eq_some_iff.1 hit2).1).trans hit2
      have hmp3 : (w2.alloc (.cells #[.string k1, .string k2] 24)).heap[b]? = some (.map es clock) := (alloc_old w2 _ (Array.getElem?_eq_some_iff.1 hmp2).1).trans hmp2
      obtain ⟨fn, tmps, assign, body, hy, hR⟩ := hY ss (k1, k2) _ hJ3 hsl
      simp only [row2] at hen hy ⊢
      gi_wp2
      refine hR.mono ?_
      rintro e W3 (⟨rfl, hJ3, hk3⟩ | ⟨rfl, hJx3⟩)
      · gi_wp2
        have hit3 := hk3.same _ _ hit3 rfl
        have hmp3 := hk3.same _ _ hmp3 rfl
        go_roundw
        case rel =>
          refine ⟨_, _, ss ++ [(k1, k2)], hit3, Nat.le_refl _, hmp3, ?_, hJ3⟩
          rw [hpush]
          refine List.Perm.trans ?_ hpm
          rw [List.append_assoc]
          refine List.Perm.append_left ss ?_
          exact ((hperm.map fun i => ks[i]!).trans (by rw [List.map_cons, hkx]; rfl)).symm
        case measure =>
          simp only [leftNum, hit3, hmp3, hit, hmp, hpush]
          have := hperm.length_eq
          simp at this
          omega
      · gi_wp2
        refine bodyPost_ret (results_none rfl _ _ _) rfl ?_
        exact ⟨⟨_, rfl⟩, .inr ⟨ss ++ [(k1, k2)], trivial, hJx3⟩⟩
set_option maxRecDepth 100000 in
set_option maxHeartbeats 1000000 in
theorem keysN52_in (F : Fence) (n : Nat) (h10 : F.fn 52) (hro : F.round = none) (l Bm Bo : Nat) (J : List Row2 → World → Prop) (W : World) (hJ : AbidesFrom W.heap.size J) (hm : W.cell? ⟨Bm, Bo, none⟩ = some (.map none)) (h0 : J [] W) :
    CallsIn F n Try.prog 52 #[.func (.yield l) #[] #[], .pointer (some ⟨Bm, Bo, none⟩)] W fun e W' => (∃ v, e = .returned v) ∧ J [] W' := by
  have hrg : (Instr.range 83 (.map none)).run Try.prog W = .ok (.pointer (some ⟨W.heap.size, 0, none⟩)) (W.alloc (.mapIter none 0 #[] 0)) := by
    simp [Instr.range, run_underlying Try.underlying83]
  refine callsIn_of_wp Try.func52 rfl h10 ?_ hro
  simp only [Try.ntmps52, List.size_toArray, List.length_cons, List.length_nil, Nat.reduceAdd, Nat.reduceSub, Array.replicate_succ, Array.replicate_zero, List.push_toArray, List.append_toArray, List.nil_append, List.cons_append]
  gi_wp2_with (first
    | (gi_at_range; refine wpListIn_range_run rfl _ 83 rfl hrg ?_)
    | gi_in)
  have hit0 : (W.alloc (.mapIter none 0 #[] 0)).heap[W.heap.size]? = some (.mapIter none 0 #[] 0) := World.alloc_heap_new W _
  have hJ0 := hJ [] W _ none h0 (World.grownBy_alloc W (.mapIter none 0 #[] 0) none) (fun r e => by cases e)
  generalize (W.alloc (.mapIter none 0 #[] 0)) = W0 at hit0 hJ0 ⊢
  have hnx : ∀ ty, (Instr.next (.pointer (some ⟨W.heap.size, 0, none⟩)) false ty).run Try.prog W0 = .ok (.tuple #[.bool false]) W0 := fun ty => by
    simp [Instr.next, run_getI hit0 (by simp)]
  go_frame
  gi_loopw [3] (fun _ wr => wr = W0) (fun _ _ => 0)
  case atStart => rfl
  case round =>
    subst hrel
    gi_wp2_with (first
      | (gi_at_next; refine wpListIn_next_run rfl _ rfl (hnx _) ?_)
      | gi_in)
    go_end0
    exact ⟨⟨_, rfl⟩, hJ0⟩
theorem keys52_stops (F : Fence) (n : Nat) (h10 : F.fn 52) (hro : F.round = none) (hn : 1 ≤ n) (Bm Bo : Nat) (ks : List Row2) (w : World) (hBm : Bm < w.heap.size)
    (hc : (w.cell? ⟨Bm, Bo, none⟩ = some (.map none) ∧ ks = []) ∨ ∃ b es clock, w.cell? ⟨Bm, Bo, none⟩ = some (.map (some b)) ∧ w.heap[b]? = some (.map es clock) ∧ Stamps es.toList clock ∧ es.toList.map (·.key) = ks.map row2) :
    SeqStopsK F n Try.prog 52 #[.pointer (some ⟨Bm, Bo, none⟩)] (fun x : Row2 => #[row2 x]) KeepsWalks (fun ss => ss.Perm ks) (fun _ => True) ks.length w := fun l J Jx W hW hJ _ hY h0 => by
  rcases hc with ⟨hc, rfl⟩ | ⟨b, es, clock, hc, hmap, hst, hks⟩
  · exact (keysN52_in F n h10 hro l Bm Bo J W hJ ((hW.cell (p := ⟨Bm, Bo, none⟩) hBm).trans hc) h0).mono fun e W' ⟨he, hj⟩ => ⟨he, .inl ⟨[], .refl _, hj⟩⟩
  · exact keys52_in F n h10 hro hn l Bm Bo b es clock ks hks hst J Jx hY W hJ ((hW.cell (p := ⟨Bm, Bo, none⟩) hBm).trans hc) ((hW.block b (Array.getElem?_eq_some_iff.1 hmap).1).trans hmap) h0
end Go.Proofs.Ytpnonheegflllaa
