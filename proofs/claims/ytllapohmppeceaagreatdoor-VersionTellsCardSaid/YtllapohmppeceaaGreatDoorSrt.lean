/- Sorting ranges, growing a slice and the examples, as contracts of a second program. No condition. -/
import Derived.Test.YtllapohmppeceaaGreatDoorCmp
import Derived.Test.YtllapohmppeceaaGreatDoorOth
import Derived.Test.YtllapohmppeceaaGreatDoorSmall
import Derived.Test.YtllapohmppeceaaGreatDoorLayG
import Derived.Test.YtllapohmppeceaaGreatDoorLc
import Derived.Test.YtllapohmppeceaaGreatDoorOrder
namespace Go.Proofs.YtllapohmppeceaaGreatDoor
open Go Go.Av Go.Av.Ap Go.RowKit Go.Sort
set_option maxRecDepth 1000000
def decR : List AV → Option (List Rng)
  | [] => some []
  | .int .i64 a :: .int .i64 b :: .int .i64 c :: .int .i64 d :: .int .i64 e :: .int .i64 f :: r => match decR r with
    | some l => some (⟨⟨a, b, c⟩, ⟨d, e, f⟩⟩ :: l)
    | none => none
  | _ => none
def eaR (r : Rng) : List AV := [.int .i64 r.lo.a, .int .i64 r.lo.b, .int .i64 r.lo.c, .int .i64 r.hi.a, .int .i64 r.hi.b, .int .i64 r.hi.c]
def evR (r : Rng) : List Value := [.int .i64 r.lo.a, .int .i64 r.lo.b, .int .i64 r.lo.c, .int .i64 r.hi.a, .int .i64 r.hi.b, .int .i64 r.hi.c]
def elsR : Els Rng := ⟨6, eaR, evR, decR⟩
theorem decR_eq : ∀ (cs : List AV) (l : List Rng), decR cs = some l → cs = (l.map eaR).flatten := by
  intro cs
  fun_induction decR cs with
  | case1 => intro l h; cases h; rfl
  | case2 a b c d e f r l' h ih =>
    intro l hl
    simp only [Option.some.injEq] at hl
    subst hl
    rw [ih l' h]
    rfl
  | case3 a b c d e f r h ih => intro l hl; cases hl
  | case4 => intro l hl; cases hl
theorem decR_map (l : List Rng) : decR (l.map eaR).flatten = some l := by
  induction l with
  | nil => rfl
  | cons x l ih =>
    simp only [List.map_cons, List.flatten_cons, eaR, List.cons_append, List.nil_append, decR]
    rw [show (l.map eaR).flatten = (l.map fun r : Rng => _).flatten from rfl] at ih
    rw [ih]
theorem elsR_ok : ElsOK elsR where
  pos := by decide
  la := fun _ => rfl
  lv := fun _ => rfl
  one := fun x v hv => by
    simp only [elsR, evR, List.mem_cons, List.not_mem_nil, or_false] at hv
    rcases hv with rfl | rfl | rfl | rfl | rfl | rfl <;> rfl
  vr := fun S β x => by simp [elsR, eaR, evR, VRs, VR]
  rv := fun S β x vs h => by
    simp only [elsR, eaR, VRs, VR] at h
    obtain ⟨_, _, rfl, rfl, _, _, rfl, rfl, _, _, rfl, rfl, _, _, rfl, rfl, _, _, rfl, rfl, _, _, rfl, rfl, rfl⟩ := h
    rfl
  dec := decR_eq
def cfR (x y : Rng) : Int := cmpV x.lo y.lo
def srt (l : List Rng) : List Rng := (pdq (ltOf cfR) l.toArray 0 l.toArray.size (Lib.bitLen l.toArray.size) true true).toList
theorem ltOf_iff (x y : Rng) : ltOf cfR x y = true ↔ ltV x.lo y.lo := by
  unfold ltOf
  rw [decide_eq_true_iff]
  exact cmpV_lt _ _
theorem swo : SWO (ltOf cfR) where
  irrefl := fun x => by
    unfold ltOf cfR cmpV ordI orI
    simp
  trans := fun x y z h1 h2 => by
    rw [ltOf_iff] at h1 h2 ⊢
    unfold ltV at h1 h2 ⊢
    omega
  ntrans := fun x y z h1 h2 => by
    rw [← Bool.not_eq_true, ltOf_iff] at h1 h2 ⊢
    unfold ltV at h1 h2 ⊢
    omega
theorem srt_ok (l : List Rng) : (srt l).Perm l ∧ (srt l).Pairwise (fun x y => cmpV x.lo y.lo ≤ 0) := by
  have h := pdq_sorts (ltOf cfR) swo l.toArray 0 l.toArray.size (Lib.bitLen l.toArray.size) true true (Nat.zero_le _) (Nat.le_refl _) (Or.inl rfl)
  obtain ⟨⟨hs, _, hp⟩, ho⟩ := h
  unfold srt
  generalize pdq (ltOf cfR) l.toArray 0 l.toArray.size (Lib.bitLen l.toArray.size) true true = d at hs hp ho
  refine ⟨?_, ?_⟩
  · rw [← hs, Array.extract_size, hs, Array.extract_size] at hp
    exact hp
  · rw [List.pairwise_iff_getElem]
    intro i j hi hj hij
    simp only [Array.length_toList] at hi hj
    have := ho i j (Nat.zero_le _) hij (by omega)
    rw [getElem!_pos d i hi, getElem!_pos d j hj] at this
    unfold ltOf cfR at this
    simp only [decide_eq_false_iff_not] at this
    simp only [Array.getElem_toList]
    have e := cmpV_neg d[i].lo d[j].lo
    omega
theorem srt_len (l : List Rng) : (srt l).length = l.length := (srt_ok l).1.length_eq
theorem gok_sort {w : World} (hg : GOKw w) {blk off n : Nat} {d : Array Rng} {os : Array Obj} (hb : gN ≤ blk) : GOKw (sortWorldK evR 6 w blk off n d os) :=
  hg.mono fun b hlt => sort_other evR 6 off n d os (Nat.lt_of_lt_of_le hlt hg.lt) (by omega)
theorem enters42 : ∀ args w, (callFunc 42 args).run Tryz.prog w = .ok (.enter 42 args) w := enters_of Tryz.func42 (by kernel_rfl) rfl
theorem vr_rng (S : Stab) (β : List Blk) (x : Rng) : VR S β x.av (.agg (evR x).toArray) := by
  simp only [Rng.av, VR]
  exact ⟨evR x, rfl, elsR_ok.vr S β x⟩
theorem cmp42 (x y : Rng) (W : World) (hg : GOKw W) : Calls Tryz.prog 42 #[.agg (evR x).toArray, .agg (evR y).toArray] W fun e w' => e = .returned (.int .i64 (cfR x y)) ∧ ∃ q os', w' = grow (W.drewN q) os' := by
  letI : Dr := ⟨True⟩
  have hv : VRs (allS W) [] [x.av, y.av] [.agg (evR x).toArray, .agg (evR y).toArray] := by
    simp only [VRs]
    exact ⟨_, _, rfl, vr_rng _ _ x, _, _, rfl, vr_rng _ _ y, rfl⟩
  have h := (callW_sound C.good C.hOther 42 [x.av, y.av] [] (allS W) [] W _ (by rw [C.t42]; simp [M.pure]) ⟨hg, fun b _ ho => by obtain ⟨l, _, _, h1, _⟩ := ho; simp at h1⟩ (fun _ _ _ h => h) ⟨rfl, fun _ => .no, fun l cs hl => by simp at hl⟩ hv).1
  rw [C.t42] at h
  refine h.mono fun e w' hp => ?_
  obtain ⟨S', β', v, rfl, hv, L, _⟩ := hp
  simp only [VR] at hv
  subst hv
  exact ⟨rfl, L.grew trivial⟩
theorem sort_calls (w : World) (blk off cap : Nat) (d : Array Rng) (hg : GOKw w) (hb : gN ≤ blk) (hH : HoldsK evR 6 w blk off d) (hlt : blk < w.heap.size) (hsz : d.size < 4611686018427387904) :
    Calls Tryz.prog 41 #[.slice (some ⟨blk, off, none⟩) d.size cap, .func (.func 42) #[] #[]] w fun e w' => e = .returned (.tuple #[]) ∧ ∃ n os, w' = sortWorldK evR 6 w blk off n (srt d.toList).toArray os := by
  refine (AnyQ.slices_SortFunc_eq Tryz.laysSort 6 Tryz.isAgg40 Tryz.sizeOf40 evR (fun _ => rfl) elsR_ok.one cfR swo 42 #[] blk off cap d w enters42 (fun m os dk _ x y => cmp42 x y _ (gok_sort hg hb)) hH hlt hsz).mono ?_
  rintro e w' ⟨he, n, os, hw⟩
  refine ⟨he, n, os, ?_⟩
  rw [hw]
  unfold srt
  simp
end Go.Proofs.YtllapohmppeceaaGreatDoor
