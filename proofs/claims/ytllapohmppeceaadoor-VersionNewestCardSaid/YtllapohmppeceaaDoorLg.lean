/- The abstract evaluator of the model, part 7: its soundness holds for every program whose table of types is the evaluator's. No further condition. -/
import Derived.Test.YtllapohmppeceaaDoorLf
import Derived.Below
import Derived.Lib.AtoiAll
import Derived.Lib.ItoaNum
import Derived.Lib.SplitLaws
import Derived.ChangeSame
import Derived.OpenShut
import Derived.Shelf.SlSortCmp.WholeK
import Derived.ChangeReads
import Derived.ReadAgain

/- Functions that are known by contracts: what they compute, and from a contract to the evaluator's post. No condition. -/
namespace Go.Av
variable [Dr]
open Go.RowKit

/-! ### From a contract to the post -/
section
variable {S : Stab} {β : List Blk} {h : Hp} {w w' : World}

omit [Dr] in
theorem HeapX.below (hh : HeapX S β w h) {S' : Stab} (hb : ∀ b, b < w.heap.size → w'.heap[b]? = w.heap[b]? ∧ ∀ o, S' b o = S b o) (hle : S.le S') : HeapX S' β w' h := by
  obtain ⟨hlen, ω, hr⟩ := hh
  refine ⟨hlen, ω, fun l cs hl hne => ?_⟩
  obtain ⟨b, x, h1, h2, h3, h4, h5⟩ := hr l cs hl hne
  have := hb b h2.lt
  exact ⟨b, x, h1, h2.of_eq this.1, h3, h4.mono hle (Ext.refl β), fun o => by rw [this.2]; exact h5 o⟩

/-- More memory: new rows, some of which are stable. -/
theorem left_below (hw : Wf S w) (hh : HeapX S β w h) (hb : Below w.heap.size w w') (hd : Dr.on → w.drawn ≤ w'.drawn) {S' : Stab} (hS : ∀ b, b < w.heap.size → ∀ o, S' b o = S b o) (hnew : ∀ b o v, w.heap.size ≤ b → S' b o = some v → w'.cell? ⟨b, o, none⟩ = some v) :
    Left (HOwn β h) S β w S' β w' h := by
  have hle : S.le S' := fun b o v hv => by rw [hS b (hw.lt hv)]; exact hv
  refine ⟨hle, Ext.refl β, fun b o v hv => ?_, ⟨hb.size, hb.os, hb.output, hb.tape, hd⟩, fun b hlt _ => ⟨hb.block b hlt, hS b hlt⟩, hh.below (fun b hlt => ⟨hb.block b hlt, hS b hlt⟩) hle, fun b hb => .inl hb⟩
  rcases Nat.lt_or_ge b w.heap.size with hlt | hge
  · rw [hS b hlt] at hv
    rw [cell_of_heap (hb.block b hlt)]
    exact hw b o v hv
  · exact hnew b o v hge hv

theorem cpost_below (hw : Wf S w) (hh : HeapX S β w h) (hb : Below w.heap.size w w') (hd : Dr.on → w.drawn ≤ w'.drawn) {r : AV} {v : Value} (hv : VR S β r v) : CPost none S β h w (.ok r h) (.returned v) w' :=
  ⟨S, β, v, rfl, hv, left_below hw hh hb hd (fun _ _ _ => rfl) (fun b o v hge hv => by have := hw.lt hv; omega), fun sz hsz => by cases hsz⟩

/-- A result in a new row. -/
theorem cpost_row (hw : Wf S w) (hh : HeapX S β w h) (hb : Below w.heap.size w w') (hd : Dr.on → w.drawn ≤ w'.drawn) {n : Nat} {x : Array Value} (hr : Row w' n x) (hn : w.heap.size ≤ n) {r : AV} {v : Value} (hv : VR (S.withRowTo n x.size x) β r v) : CPost none S β h w (.ok r h) (.returned v) w' :=
  ⟨_, β, v, rfl, hv, left_below hw hh hb hd (fun b hlt o => by unfold Stab.withRowTo; rw [if_neg (by omega)]) (fun b o v hge hv => by
    by_cases hbn : b = n
    · subst hbn
      unfold Stab.withRowTo at hv
      rw [if_pos rfl] at hv
      split at hv
      · rw [hr.cell]; exact hv
      · cases hv
    · unfold Stab.withRowTo at hv
      rw [if_neg hbn] at hv
      have := hw.lt hv; omega), fun sz hsz => by cases hsz⟩

omit [Dr] in
/-- A slice of strings in a new row. -/
theorem strs_row (S : Stab) (β : List Blk) (n : Nat) (l : List ByteArray) (ls : List (List UInt8)) (hl : l.map (·.data.toList) = ls) : VR (S.withRowTo n (l.map Value.string).toArray.size (l.map Value.string).toArray) β (.sl (ls.map .str)) (.slice (some ⟨n, 0, none⟩) l.length l.length) := by
  subst hl
  simp only [VR, List.length_map]
  refine ⟨some ⟨n, 0, none⟩, l.length, rfl, Nat.le_refl _, (fun h => by cases h), fun q hq => ?_⟩
  simp only [Option.some.injEq] at hq
  subst hq
  refine ⟨rfl, 1, .of_get fun i e he => ?_⟩
  simp only [List.map_map, List.getElem?_map, Option.map_eq_some_iff, Function.comp] at he
  obtain ⟨s, hs, rfl⟩ := he
  refine ⟨.string s, by simp only [VR]; exact ⟨s, rfl, rfl⟩, rfl, fun j v hj => ?_⟩
  have hlt : i < l.length := by
    rcases Nat.lt_or_ge i l.length with h | h
    · exact h
    · rw [List.getElem?_eq_none h] at hs; cases hs
  rw [show (Value.string s).cells.toList = [Value.string s] from rfl] at hj
  cases j with
  | succ j => simp at hj
  | zero =>
    simp only [List.getElem?_cons_zero, Option.some.injEq] at hj
    subst hj
    unfold Stab.withRowTo
    simp [hlt]
    rw [List.getElem?_eq_getElem hlt] at hs
    simpa using hs
end

/-! ### strconv.Itoa -/
def digs : Nat → Nat → List UInt8
  | 0, _ => []
  | f + 1, u => bif decide (u < 10) then [UInt8.ofNat (48 + u)] else digs f (u / 10) ++ [UInt8.ofNat (48 + u % 10)]
omit [Dr] in
theorem digs_eq : ∀ (f u : Nat), u < 10 ^ (f + 1) → digs (f + 1) u = Lib.decDigits u
  | f, u, h => by
    rw [Lib.decDigits]
    rw [show digs (f + 1) u = bif decide (u < 10) then [UInt8.ofNat (48 + u)] else digs f (u / 10) ++ [UInt8.ofNat (48 + u % 10)] from rfl]
    by_cases h10 : u < 10
    · rw [dif_pos h10, decide_eq_true h10]; rfl
    · rw [dif_neg h10, decide_eq_false h10]
      cases f with
      | zero => omega
      | succ f => rw [digs_eq f (u / 10) (by rw [Nat.pow_succ] at h; omega)]; rfl
def itoaL (n : Int) : List UInt8 := bif decide (n < 0) then 45 :: digs 20 n.natAbs else digs 20 n.toNat
omit [Dr] in
theorem itoaL_eq {n : Int} (h0 : -9223372036854775808 ≤ n) (h1 : n ≤ 9223372036854775807) : itoaL n = Lib.itoa n := by
  unfold itoaL Lib.itoa
  by_cases h : n < 0
  · rw [decide_eq_true h, if_pos h]
    simp only [cond_true]
    rw [digs_eq 19 n.natAbs (by omega)]
  · rw [decide_eq_false h, if_neg h]
    simp only [cond_false]
    rw [digs_eq 19 n.toNat (by omega)]
/-- Calls that are not known. -/
def failE : (FuncId → List AV → M AV) → List AV → M AV := fun _ _ => M.fail
def itoaE : (FuncId → List AV → M AV) → List AV → M AV := fun _ args => match args with
  | [.int .i64 n] => lft (bif decide (-9223372036854775808 ≤ n) && decide (n ≤ 9223372036854775807) then some (.str (itoaL n)) else none)
  | _ => M.fail

/-! ### strings.Split at one byte -/
def splitC (c : UInt8) : List UInt8 → List (List UInt8)
  | [] => [[]]
  | x :: l => bif x == c then [] :: splitC c l else match splitC c l with
    | p :: ps => (x :: p) :: ps
    | [] => [[x]]
omit [Dr] in
theorem splitC_ne (c : UInt8) : ∀ l, splitC c l ≠ []
  | [] => by simp [splitC]
  | x :: l => by
    simp only [splitC]
    cases x == c with
    | true => simp
    | false =>
      simp only [cond_false]
      split <;> simp
omit [Dr] in
theorem splitK_C (c : UInt8) : ∀ s, Lib.splitK [c] 0 (s.count c) s = splitC c s
  | [] => rfl
  | b :: l => by
    have ih := splitK_C c l
    by_cases h : b = c
    · subst h
      have hi : Lib.index (b :: l) [b] = 0 := by unfold Lib.index; simp
      rw [List.count_cons_self]
      simp only [Lib.splitK, hi, splitC, beq_self_eq_true, cond_true]
      simp [ih]
    · have hbc : (b == c) = false := beq_eq_false_iff_ne.2 h
      have hcb : (c == b) = false := beq_eq_false_iff_ne.2 (fun e => h e.symm)
      have hi : Lib.index (b :: l) [c] = if Lib.index l [c] == -1 then -1 else Lib.index l [c] + 1 := by
        conv => lhs; unfold Lib.index
        rw [if_neg (by simp; exact fun e => h e.symm)]
      rw [List.count_cons_of_ne h]
      simp only [splitC, hbc, cond_false]
      rw [← ih]
      cases hk : l.count c with
      | zero => simp [Lib.splitK]
      | succ k =>
        simp only [Lib.splitK, hi]
        by_cases hm : Lib.index l [c] = -1
        · simp [hm]
        · have hm' : (Lib.index l [c] == -1) = false := beq_eq_false_iff_ne.2 hm
          have hge := Lib.index_ge l [c]
          have hm2 : ¬ (Lib.index l [c] + 1 = -1) := by omega
          obtain ⟨i, hii⟩ : ∃ i : Nat, Lib.index l [c] = i := ⟨(Lib.index l [c]).toNat, by omega⟩
          rw [hii] at hm' hm2 ⊢
          have e1 : ((i : Int) + 1).toNat = i + 1 := by omega
          simp [hm', hm2, e1]
def splitE : (FuncId → List AV → M AV) → List AV → M AV := fun _ args => match args with
  | [.str s, .str [c]] => lft (bif decide (s.length < 4294967281) then some (.sl ((splitC c s).map .str)) else none)
  | _ => M.fail

/-! ### strconv.Atoi -/
def atoiR (t : TypeId) (s : List UInt8) : AV := match Lib.atoiAll s with
  | .ok v => .tup [.int .i64 v, .nili]
  | .range => .tup [.int .i64 (Lib.atoiSat s), .iface t .any]
  | _ => .tup [.int .i64 0, .iface t .any]
def atoiE (t : TypeId) : (FuncId → List AV → M AV) → List AV → M AV := fun _ args => match args with
  | [.str s] => lft (bif decide (s.length ≤ 281474976710656) then some (atoiR t s) else none)
  | _ => M.fail
end Go.Av

/- From a call of the evaluator to the form's words. Conditions: the program is good; the package variables hold what they are said to hold. -/
namespace Go.Av
variable [Dr]
open Go.RowKit Go.WideShapes Go.ChangeShapes

theorem Left.below {S S' : Stab} {β β' : List Blk} {w w' : World} {h' : Hp} (L : Left (HOwn [] []) S β w S' β' w' h') : Below w.heap.size w w' :=
  ⟨L.gro.os, L.gro.tape, L.gro.out, L.gro.size, fun k hk => (L.keep k hk (by rintro ⟨l, _, _, h1, _⟩; simp at h1)).1⟩

/-- All cells are stable. -/
def allS (W : World) : Stab := fun b o => W.cell? ⟨b, o, none⟩
omit [Dr] in
theorem allS_wf (W : World) : Wf (allS W) W := fun _ _ _ h => h

omit [Dr] in
theorem gok_start {W : World} (h : GOKw W) : GOK [] [] W := ⟨h, fun b _ ho => by obtain ⟨l, _, _, h1, _⟩ := ho; simp at h1⟩

/-- A law's call: true, and memory as it was. -/
theorem law_calls {P : Program} {p : Pg} (G : GoodPg P p) (hO : OtherLim p) {f : FuncId} {args : List AV} {vs : List Value} {W : World} (hg : GOKw W) (hv : VRs (allS W) [] args vs)
    (ht : callW p f args [] = .ok (.bool true) []) : Calls P f vs.toArray W fun e W' => e = .returned (.bool true) ∧ Below W.heap.size W W' := by
  have h := (callW_sound G hO f args [] (allS W) [] W vs (by rw [ht]; simp) (gok_start hg) (allS_wf W) ⟨rfl, fun _ => .no, fun l cs hl => by simp at hl⟩ hv).1
  rw [ht] at h
  refine h.mono fun e W' hp => ?_
  obtain ⟨S', β', v, rfl, hv, L, _⟩ := hp
  simp only [VR] at hv
  subst hv
  exact ⟨rfl, L.below⟩

section
variable {H : Type} {enc : TypeId × Value → H} {P : Program}
omit [Dr] in
theorem post_of_below {f : Func} {s : ChangeSpec} {apart fresh handsOn again : Bool} {W W' : World} {args : Array Value} {v : Value} {ds gs : List (DataW H)} {before pa pv : List MemPlace}
    (hW : DataW.Whole enc P f.params.toList s.vars apart W args.toList ds gs before)
    (hres : ∀ (b : Nat) (sp : Nat → Bool) (hd : Bool), DataW.TrodAll enc P W' b sp hd f.resultTypes.toList (v.resultList f.resultTypes.size) (s.fn H (ds ++ gs)).results [])
    (hargs : ∀ sp : Nat → Bool, (∀ p ∈ before, sp p.block = true) → DataW.TrodAll enc P W' 0 sp true f.params.toList args.toList (s.fn H (ds ++ gs)).args pa)
    (hvars : ∀ sp : Nat → Bool, (∀ p ∈ before, sp p.block = true) → DataW.TrodVars enc P W' sp s.vars (s.fn H (ds ++ gs)).vars pv)
    (hps : before = pa ++ pv) (hb : Below W.heap.size W W')
    (hok : ∀ (j : Nat) (t : TypeId) (r : Value), f.resultTypes[j]? = some t → (v.resultList f.resultTypes.size)[j]? = some r → Value.okWide P W' .any 0 t r) :
    s.post enc P f apart fresh handsOn again W args v W' := by
  have hlt : ∀ p ∈ before, p.block < W.heap.size := fun p hp => hW.lt p hp
  have hold : ∀ p ∈ before, (fun b => decide (b < W.heap.size)) p.block = true := fun p hp => by simpa using hlt p hp
  refine ⟨ds, gs, before, [], pa, pv, hW, hres _ _ _, hargs _ hold, hvars _ hold, World.keptBut_mono (fun p hp => ⟨hp, ?_⟩) (hb.frame (· ∈ before)), fun _ => ?_⟩
  · rw [hps, List.mem_append] at hp
    exact Or.inr hp
  · obtain ⟨_, _, _, _, _, hz, hn⟩ := hW
    refine ⟨hok, _, _, ([] ++ pa) ++ pv, ⟨[] ++ pa, pv, trodAll_append (hargs _ (fun _ _ => rfl)) (hres _ _ _), hvars _ (fun _ _ => rfl), rfl, ?_, ?_⟩, ?_⟩
    · intro b off hp
      have hin : MemPlace.cell b off ∈ before := by rw [hps]; simpa using hp
      rw [hb.frozen (hlt _ hin)]
      exact hz b off hin
    · intro ha
      have := hn ha
      rw [hps] at this
      simpa using this
    · intro p hp _
      rw [hps]
      simpa using hp
end
end Go.Av

/- slices.SortFunc at elements of several cells, by its contract: what it computes, and from the contract to the evaluator's post. No condition. -/
namespace Go.Av
open Go.RowKit Go.Sort Go.Proofs

section
variable [Dr]
/-- Nobody's rows have turned: the world has only grown. -/
theorem Left.grew (hd : Dr.on) {S S' : Stab} {β β' : List Blk} {w w' : World} {h' : Hp} (L : Left (HOwn [] []) S β w S' β' w' h') : ∃ q os, w' = grow (w.drewN q) os := by
  have hg := L.gro
  have hd := hg.cnt hd
  have hk : ∀ b, b < w.heap.size → w'.heap[b]? = w.heap[b]? := fun b hb => (L.keep b hb (by rintro ⟨l, _, _, h1, _⟩; simp at h1)).1
  refine ⟨w'.drawn - w.drawn, w'.heap.extract w.heap.size w'.heap.size, ?_⟩
  have e1 : w.heap ++ w'.heap.extract w.heap.size w'.heap.size = w'.heap := by
    apply Array.ext_getElem?
    intro i
    by_cases hi : i < w.heap.size
    · rw [Array.getElem?_append_left hi, hk i hi]
    · rw [Array.getElem?_append_right (by omega), Array.getElem?_extract]
      split
      · rw [show w.heap.size + (i - w.heap.size) = i by omega]
      · rw [Array.getElem?_eq_none (by omega)]
  have e2 : w.drawn + (w'.drawn - w.drawn) = w'.drawn := by omega
  obtain ⟨h1, h2, h3, h4, h5⟩ := w'
  obtain ⟨g1, g2, g3, g4, g5⟩ := w
  have a1 := hg.os; have a2 := hg.out; have a3 := hg.tape
  simp only at a1 a2 a3 e1 e2
  unfold grow World.drewN
  simp only [e1, e2, a1, a2, a3]
end

/-! ### Rows of elements -/
theorem flatten_get {α β : Type} (f : α → List β) (k : Nat) (hk : ∀ x, (f x).length = k) (hp : 0 < k) : ∀ (l : List α) (t : Nat), (l.map f).flatten[t]? = (l[t / k]?).bind fun x => (f x)[t % k]?
  | [], t => by simp
  | x :: l, t => by
    simp only [List.map_cons, List.flatten_cons]
    by_cases h : t < k
    · rw [List.getElem?_append_left (by rw [hk]; exact h), Nat.div_eq_of_lt h, Nat.mod_eq_of_lt h]; simp
    · rw [List.getElem?_append_right (by rw [hk]; omega), hk, flatten_get f k hk hp l (t - k)]
      rw [Nat.div_eq_sub_div hp (by omega : k ≤ t), Nat.mod_eq_sub_mod (by omega : k ≤ t)]
      simp
theorem flatten_len {α β : Type} (f : α → List β) (k : Nat) (hk : ∀ x, (f x).length = k) : ∀ (l : List α), (l.map f).flatten.length = l.length * k
  | [] => by simp
  | x :: l => by simp only [List.map_cons, List.flatten_cons, List.length_append, hk, flatten_len f k hk l, List.length_cons, Nat.succ_mul]; omega
section
variable {α : Type} [Inhabited α]
theorem flatK_list (enc : α → List Value) (k : Nat) (hk : ∀ x, (enc x).length = k) (hp : 0 < k) (d : Array α) : (flatK enc k d).toList = (d.toList.map enc).flatten := by
  apply List.ext_getElem?
  intro t
  rw [flatten_get enc k hk hp]
  by_cases ht : t < d.size * k
  · have hd : t / k < d.size := by rw [Nat.div_lt_iff_lt_mul hp]; exact ht
    have hm : t % k < k := Nat.mod_lt _ hp
    have h1 := get_flatK enc k d t ht
    rw [getElem!_pos (flatK enc k d) t (by rw [size_flatK]; exact ht), getElem!_pos d _ hd, getElem!_pos (enc _) _ (by rw [hk]; exact hm)] at h1
    rw [List.getElem?_eq_getElem (by simpa using ht), Array.getElem_toList, h1, Array.getElem?_toList, Array.getElem?_eq_getElem hd]
    simp only [Option.bind_some]
    rw [List.getElem?_eq_getElem (by rw [hk]; exact hm)]
  · rw [List.getElem?_eq_none (by simp only [Array.length_toList, size_flatK]; omega), List.getElem?_eq_none (by simp only [Array.length_toList]; rw [Nat.le_div_iff_mul_le hp]; omega)]
    rfl

theorem putCells_list (F x : Array Value) (off : Nat) (hf : off + F.size ≤ x.size) : putCells id off F x = (x.toList.take off ++ F.toList ++ x.toList.drop (off + F.size)).toArray := by
  apply Array.ext_getElem?
  intro t
  unfold putCells
  simp only [Array.getElem?_mapIdx, List.getElem?_toArray]
  by_cases h1 : t < off
  · rw [List.getElem?_append_left (by simp; omega), List.getElem?_append_left (by simp; omega), List.getElem?_take, if_pos h1, Array.getElem?_toList, Array.getElem?_eq_getElem (by omega)]
    simp only [Option.map_some]
    rw [if_neg (by omega)]
  · by_cases h2 : t < off + F.size
    · rw [List.getElem?_append_left (by simp; omega), List.getElem?_append_right (by simp; omega)]
      have e : (x.toList.take off).length = off := by simp; omega
      rw [e, Array.getElem?_eq_getElem (by omega : t < x.size), Array.getElem?_toList, Array.getElem?_eq_getElem (by omega : t - off < F.size)]
      simp only [Option.map_some, id]
      rw [if_pos ⟨by omega, h2⟩, getElem!_pos F _ (by omega)]
    · have e : (x.toList.take off ++ F.toList).length = off + F.size := by simp; omega
      rw [List.getElem?_append_right (by rw [e]; omega), e, List.getElem?_drop, Array.getElem?_toList, show off + F.size + (t - (off + F.size)) = t by omega]
      cases x[t]? with
      | none => rfl
      | some y => simp only [Option.map_some]; rw [if_neg (by omega)]

theorem sort_row {w : World} {b : Nat} {x : Array Value} (hr : Row w b x) (enc : α → List Value) (k off n : Nat) (d : Array α) (os : Array Obj) (hf : off + d.size * k ≤ x.size) :
    Row (sortWorldK enc k w b off n d os) b (x.toList.take off ++ (flatK enc k d).toList ++ x.toList.drop (off + (flatK enc k d).size)).toArray := by
  have hlt := hr.lt
  obtain ⟨e, he⟩ := hr
  refine ⟨e, ?_⟩
  rw [← putCells_list (flatK enc k d) x off (by rw [size_flatK]; exact hf)]
  show ((w.heap.modify b (onCells (putCells id off (flatK enc k d)))) ++ os)[b]? = _
  rw [Array.getElem?_append_left (by simpa using hlt), Array.getElem?_modify, if_pos rfl, he]
  rfl
theorem sort_other {w : World} {b b' : Nat} (enc : α → List Value) (k off n : Nat) (d : Array α) (os : Array Obj) (hlt : b' < w.heap.size) (hb : b' ≠ b) : (sortWorldK enc k w b off n d os).heap[b']? = w.heap[b']? := by
  show ((w.heap.modify b (onCells (putCells id off (flatK enc k d)))) ++ os)[b']? = _
  rw [Array.getElem?_append_left (by simpa using hlt), Array.getElem?_modify, if_neg (fun h => hb h.symm)]
theorem sort_gro [Dr] {w : World} {b : Nat} (enc : α → List Value) (k off n : Nat) (d : Array α) (os : Array Obj) : Gro w (sortWorldK enc k w b off n d os) := by
  refine ⟨?_, rfl, rfl, rfl, fun _ => ?_⟩
  · show _ ≤ ((w.heap.modify b (onCells (putCells id off (flatK enc k d)))) ++ os).size
    simp
  · show w.drawn ≤ w.drawn + n
    omega
end

section
variable [Dr] {S : Stab} {β : List Blk} {h : Hp} {w w' : World}
/-- A row of the heap has turned. -/
theorem left_row (hw : Wf S w) (hh : HeapX S β w h) {l b nb off : Nat} {cs acs : List AV} {vs : List Value} (hcs : h[l]? = some cs) (hne : cs ≠ []) (hb : β[l]? = some (b, nb)) (hvs : VRs S β acs vs) (hle : off + acs.length ≤ cs.length) (hg : Gro w w')
    (hr : ∀ x, Row w b x → cs.length ≤ x.size → Row w' b (x.toList.take off ++ vs ++ x.toList.drop (off + vs.length)).toArray) (ho : ∀ b', b' < w.heap.size → b' ≠ b → w'.heap[b']? = w.heap[b']?) :
    Left (HOwn β h) S β w S β w' (h.set l (setCells cs off acs)) := by
  obtain ⟨hlen, ω, hH⟩ := hh
  obtain ⟨b', z, j1, j2, j3, j4, j5⟩ := hH l cs hcs hne
  rw [hb] at j1; cases j1
  have hvl := hvs.length
  have hzs : cs.length ≤ z.size := by
    have := j4.length
    simp at this
    omega
  have hrow := hr z j2 hzs
  have hll : l < h.length := by
    rcases Nat.lt_or_ge l h.length with k | k
    · exact k
    · rw [List.getElem?_eq_none k] at hcs; cases hcs
  have hown : ∀ b', HOwn β (h.set l (setCells cs off acs)) b' → HOwn β h b' := by
    rintro b' ⟨l', cs', n, k1, k2, k3⟩
    by_cases hl : l' = l
    · subst hl
      exact ⟨l', cs, n, hcs, hne, k3⟩
    · rw [List.getElem?_set_ne (fun e => hl e.symm)] at k1
      exact ⟨l', cs', n, k1, k2, k3⟩
  refine ⟨Stab.le_refl S, Ext.refl β, fun b' o v hv => ?_, hg, fun b' hb' hE => ?_, ⟨by simpa using hlen, ω, fun l' cs' hl' hne' => ?_⟩, fun b' hb' => .inl (hown b' hb')⟩
  · have hne2 : b' ≠ b := by rintro rfl; rw [j5] at hv; cases hv
    rw [cell_of_heap (ho b' (hw.lt hv) hne2)]
    exact hw b' o v hv
  · have hne2 : b' ≠ b := by rintro rfl; exact hE ⟨l, cs, _, hcs, hne, hb⟩
    exact ⟨ho b' hb' hne2, fun _ => rfl⟩
  · by_cases hl : l' = l
    · subst hl
      rw [List.getElem?_set_self hll] at hl'
      cases hl'
      refine ⟨b, _, ?_, hrow, j3, ?_, j5⟩
      · rw [hb]; simp; omega
      · rw [setCells_length _ _ _ (by omega)]
        have hsp : VRs S β (setCells cs off acs) (((z.toList.take cs.length).take off ++ vs ++ (z.toList.take cs.length).drop (off + vs.length))) := by
          unfold setCells
          rw [hvl]
          exact ((j4.take off).append hvs).append (j4.drop _)
        have heq : (z.toList.take off ++ vs ++ z.toList.drop (off + vs.length)).take cs.length =
            (z.toList.take cs.length).take off ++ vs ++ (z.toList.take cs.length).drop (off + vs.length) := by
          rw [List.take_append, List.take_append]
          have e1 : (z.toList.take off).length = off := by simp; omega
          rw [List.take_take, List.take_take]
          have e2 : min cs.length off = off := by omega
          have e3 : min off cs.length = off := by omega
          rw [e2, e3, e1]
          have e4 : vs.take (cs.length - off) = vs := List.take_of_length_le (by omega)
          rw [e4]
          congr 1
          rw [List.take_drop, List.length_append, e1]
          congr 2
          omega
        show VRs S β _ (List.take _ _)
        rw [show (z.toList.take off ++ vs ++ z.toList.drop (off + vs.length)).toArray.toList = (z.toList.take off ++ vs ++ z.toList.drop (off + vs.length)) from rfl, heq]
        exact hsp
    · rw [List.getElem?_set_ne (fun e => hl e.symm)] at hl'
      obtain ⟨b2, y, k1, k2, k3, k4, k5⟩ := hH l' cs' hl' hne'
      have hne2 : b2 ≠ b := by
        rintro rfl
        rw [j3] at k3
        cases k3
        exact hl rfl
      exact ⟨b2, y, k1, k2.of_eq (ho b2 k2.lt hne2), k3, k4, k5⟩
end

/-! ### The call -/
/-- Elements of k cells each. -/
structure Els (α : Type) where
  k : Nat
  ea : α → List AV
  ev : α → List Value
  dec : List AV → Option (List α)
structure ElsOK {α : Type} (X : Els α) : Prop where
  pos : 0 < X.k
  la : ∀ x, (X.ea x).length = X.k
  lv : ∀ x, (X.ev x).length = X.k
  one : ∀ x, ∀ v ∈ X.ev x, v.oneCell' = true
  vr : ∀ (S : Stab) (β : List Blk) (x : α), VRs S β (X.ea x) (X.ev x)
  rv : ∀ (S : Stab) (β : List Blk) (x : α) (vs : List Value), VRs S β (X.ea x) vs → vs = X.ev x
  dec : ∀ cs l, X.dec cs = some l → cs = (l.map X.ea).flatten
theorem ElsOK.flat {α : Type} {X : Els α} (hX : ElsOK X) (S : Stab) (β : List Blk) : ∀ l : List α, VRs S β (l.map X.ea).flatten (l.map X.ev).flatten
  | [] => by simp [VRs]
  | x :: l => by simp only [List.map_cons, List.flatten_cons]; exact (hX.vr S β x).append (hX.flat S β l)
theorem VRs.split {S : Stab} {β : List Blk} : {ps qs : List AV} → {vs : List Value} → VRs S β (ps ++ qs) vs → ∃ u v, vs = u ++ v ∧ VRs S β ps u ∧ VRs S β qs v
  | [], _, vs, h => ⟨[], vs, rfl, by simp [VRs], h⟩
  | _ :: ps, qs, vs, h => by
    simp only [List.cons_append, VRs] at h
    obtain ⟨x, xs, rfl, h1, h2⟩ := h
    obtain ⟨u, v, rfl, h3, h4⟩ := VRs.split h2
    exact ⟨x :: u, v, rfl, by simp only [VRs]; exact ⟨x, u, rfl, h1, h3⟩, h4⟩
theorem ElsOK.unflat {α : Type} {X : Els α} (hX : ElsOK X) {S : Stab} {β : List Blk} : ∀ (l : List α) (vs : List Value), VRs S β (l.map X.ea).flatten vs → vs = (l.map X.ev).flatten
  | [], vs, h => by simpa [VRs] using h
  | x :: l, vs, h => by
    simp only [List.map_cons, List.flatten_cons] at h ⊢
    obtain ⟨u, v, rfl, h1, h2⟩ := VRs.split h
    rw [hX.rv S β x u h1, hX.unflat l v h2]

/-- slices.SortFunc, the comparing function being number g. -/
def sortE {α : Type} (X : Els α) (g : Nat) (srt : List α → List α) : (FuncId → List AV → M AV) → List AV → M AV := fun _ args h => match args with
  | [.sl [], .fn (.func g') [] []] => bif Nat.beq g' g then .ok (.tup []) h else .fail
  | [.hs l off len sz _, .fn (.func g') [] []] => match h[l]? with
    | none => .fail
    | some cs => match X.dec ((cs.drop off).take (len * X.k)) with
      | none => .fail
      | some xs => bif Nat.beq g' g && Nat.beq sz X.k && decide (0 < len) && decide (off + len * X.k ≤ cs.length) && decide (xs.length = len) && decide (len < 4611686018427387904) && decide ((srt xs).length = len)
          then .ok (.tup []) (h.set l (setCells cs off ((srt xs).map X.ea).flatten)) else .fail
  | _ => .fail

section
variable [Dr] {α : Type} [Inhabited α] {P : Program}
theorem sort_hs {X : Els α} (hX : ElsOK X) {f g : Nat} {srt : List α → List α} (call : FuncId → List AV → M AV)
    (hcal : ∀ (w : World) (blk off cap : Nat) (d : Array α), GOKw w → gN ≤ blk → HoldsK X.ev X.k w blk off d → blk < w.heap.size → d.size < 4611686018427387904 →
      Calls P f #[.slice (some ⟨blk, off, none⟩) d.size cap, .func (.func g) #[] #[]] w fun e w' => e = .returned (.tuple #[]) ∧ ∃ n os, w' = sortWorldK X.ev X.k w blk off n (srt d.toList).toArray os)
    {l off len sz g' : Nat} {ag : Bool} {h : Hp} {S : Stab} {β : List Blk} {w : World} {vs : List Value} (hr : sortE X g srt call [.hs l off len sz ag, .fn (.func g') [] []] h ≠ .fail) (hg : GOK β h w) (hw : Wf S w) (hh : HeapX S β w h)
    (hv : VRs S β [.hs l off len sz ag, .fn (.func g') [] []] vs) : Calls P f vs.toArray w (CPost none S β h w (sortE X g srt call [.hs l off len sz ag, .fn (.func g') [] []] h)) := by
  unfold sortE at hr ⊢
  simp only at hr ⊢
  cases hl : h[l]? with
  | none => rw [hl] at hr; exact absurd rfl hr
  | some cs =>
    rw [hl] at hr
    simp only at hr ⊢
    cases hd : X.dec ((cs.drop off).take (len * X.k)) with
    | none => rw [hd] at hr; exact absurd rfl hr
    | some xs =>
      rw [hd] at hr
      simp only at hr ⊢
      cases hc : (Nat.beq g' g && Nat.beq sz X.k && decide (0 < len) && decide (off + len * X.k ≤ cs.length) && decide (xs.length = len) && decide (len < 4611686018427387904) && decide ((srt xs).length = len)) with
      | false => rw [hc] at hr; exact absurd rfl hr
      | true =>
        simp only [Bool.and_eq_true, decide_eq_true_eq] at hc
        obtain ⟨⟨⟨⟨⟨⟨c1, c2⟩, c3⟩, c4⟩, c5⟩, c6⟩, c7⟩ := hc
        obtain rfl := Nat.eq_of_beq_eq_true c1
        obtain rfl := Nat.eq_of_beq_eq_true c2
        simp only [cond_true]
        have hpos := hX.pos
        have hlk : 0 < len * X.k := Nat.mul_pos c3 hpos
        have hne : cs ≠ [] := by rintro rfl; simp at c4; omega
        simp only [VRs, VR] at hv
        obtain ⟨v1, r1, rfl, ⟨⟨b, nb⟩, cap, hb, rfl, k1, k2⟩, v2, r2, rfl, ⟨y1, y2, rfl, rfl, rfl⟩, rfl⟩ := hv
        have hh' := hh
        obtain ⟨hlen, ω, hH⟩ := hh
        obtain ⟨b', z, j1, j2, j3, j4, j5⟩ := hH l cs hl hne
        rw [hb] at j1; cases j1
        have hzs : cs.length ≤ z.size := by
          have := j4.length
          simp at this
          omega
        have hown : HOwn β h b := ⟨l, cs, _, hl, hne, hb⟩
        have hgb : gN ≤ b := by
          rcases Nat.lt_or_ge b gN with k | k
          · exact absurd hown (hg.2 b k)
          · exact k
        have hxs := hX.dec _ _ hd
        have hvx := hX.unflat (S := S) (β := β) xs _ (by rw [← hxs]; exact (j4.drop off).take (len * X.k))
        have hflat := flatK_list X.ev X.k hX.lv hpos xs.toArray
        have hsz : (flatK X.ev X.k xs.toArray).size = len * X.k := by rw [size_flatK]; simp [c5]
        have hholds : HoldsK X.ev X.k w b off xs.toArray := by
          intro j hj
          rw [hsz] at hj
          have e1 : (flatK X.ev X.k xs.toArray)[j]! = z[off + j]'(by omega) := by
            have h1 : (flatK X.ev X.k xs.toArray).toList[j]? = z.toList[off + j]? := by
              rw [hflat, show xs.toArray.toList = xs from rfl, ← hvx, List.getElem?_take, if_pos hj, List.getElem?_drop, List.getElem?_take, if_pos (by omega)]
            rw [Array.getElem?_toList, Array.getElem?_toList, Array.getElem?_eq_getElem (by omega), Array.getElem?_eq_getElem (by omega)] at h1
            rw [getElem!_pos _ j (by omega)]
            exact Option.some.inj h1
          rw [e1]
          refine ⟨by rw [j2.cell, Array.getElem?_eq_getElem (by omega)]; rfl, ?_⟩
          obtain ⟨e, he⟩ := j2
          simp [World.frozen?, he]
        have hcall := hcal w b off cap xs.toArray hg.1 hgb hholds j2.lt (by simpa [c5] using c6)
        rw [show xs.toArray.size = len by simp [c5]] at hcall
        refine hcall.mono ?_
        rintro e w' ⟨rfl, n, os, rfl⟩
        have hfl2 := flatK_list X.ev X.k hX.lv hpos (srt xs).toArray
        have hs2 : (flatK X.ev X.k (srt xs).toArray).size = len * X.k := by rw [size_flatK]; simp [c7]
        have hal : ((srt xs).map X.ea).flatten.length = len * X.k := by rw [flatten_len X.ea X.k hX.la, c7]
        refine ⟨S, β, _, rfl, by simp only [VR, VRs]; exact ⟨[], rfl, rfl⟩, left_row (vs := (flatK X.ev X.k (srt xs).toArray).toList) hw hh' hl hne hb (by rw [hfl2]; exact hX.flat S β (srt xs)) (by rw [hal]; exact c4) (sort_gro X.ev X.k off n _ os) (fun x hx hle => ?_) (fun b' hlt hne2 => sort_other X.ev X.k off n _ os hlt hne2), fun _ hsz => by cases hsz⟩
        have := sort_row hx X.ev X.k off n (srt xs).toArray os (by simp only [List.size_toArray, c7]; omega)
        exact this
end
end Go.Av

/- Arguments that a call leaves as they were are read again behind it. Conditions: the program's table of types. -/
namespace Go.Av
open Go.RowKit
section
variable {H : Type} {enc : TypeId × Value → H} {P : Program} {w w' : World}
theorem trodAll_carry {base : Nat} {spare : Nat → Bool} {held : Bool} : ∀ {ts : List TypeId} {vs : List Value} {ds : List (DataW H)} {ps : List MemPlace}, DataW.TrodAll enc P w base spare held ts vs ds ps → (∀ p ∈ ps, w.sameAt w' p) → DataW.TrodAll enc P w' base spare held ts vs ds ps
  | [], [], [], _, h, _ => h
  | _ :: _, _ :: _, _ :: _, _, ⟨p, q, ⟨n, h1⟩, h2, e⟩, hs => ⟨p, q, ⟨n, DataW.trod_carry n _ _ _ h1 (fun x hx => hs x (by rw [e]; exact List.mem_append_left _ hx))⟩, trodAll_carry h2 (fun x hx => hs x (by rw [e]; exact List.mem_append_right _ hx)), e⟩
theorem sameAt_below (hb : Below w.heap.size w w') {p : MemPlace} (hp : p.block < w.heap.size) : w.sameAt w' p := by
  cases p with
  | cell b off =>
    have := hb.block b hp
    show w'.cell? ⟨b, off, none⟩ = w.cell? ⟨b, off, none⟩
    simp only [World.cell?, this]
  | map b => exact hb.block b hp
theorem args_again {T : TypeId → Prop} (K : Kids P T) (hz : ∀ t e, T t → P.underlying t = some (.slice e) → 0 < P.cellsOf e) {ts : List TypeId} {vs : List Value} {ds : List (DataW H)} {ps : List MemPlace} (hT : ∀ t ∈ ts, T t)
    (h : DataW.TrodAll enc P w 0 (fun _ => true) true ts vs ds ps) (hlt : ∀ p ∈ ps, p.block < w.heap.size) (hb : Below w.heap.size w w') (sp : Nat → Bool) (hsp : ∀ p ∈ ps, sp p.block = true) : DataW.TrodAll enc P w' 0 sp true ts vs ds ps :=
  (trodAll_carry h fun p hp => sameAt_below hb (hlt p hp)).respare K hz hT hsp
end
/-- Values one by one. -/
theorem list_of {α : Type} (Q : Nat → α → Prop) : ∀ n, (∀ i, i < n → ∃ x, Q i x) → ∃ l : List α, l.length = n ∧ ∀ i x, l[i]? = some x → Q i x
  | 0, _ => ⟨[], rfl, fun i x h => by simp at h⟩
  | n + 1, h => by
    obtain ⟨l, h1, h2⟩ := list_of Q n fun i hi => h i (by omega)
    obtain ⟨y, hy⟩ := h n (by omega)
    refine ⟨l ++ [y], by simp [h1], fun i x hx => ?_⟩
    by_cases hi : i < n
    · rw [List.getElem?_append_left (by omega)] at hx
      exact h2 i x hx
    · rw [List.getElem?_append_right (by omega)] at hx
      have hin : i - l.length = 0 := by
        rcases Nat.eq_zero_or_pos (i - l.length) with h | h
        · exact h
        · rw [List.getElem?_eq_none (by simp; omega)] at hx; cases hx
      rw [hin] at hx
      simp only [List.getElem?_cons_zero, Option.some.injEq] at hx
      subst hx
      obtain rfl : i = n := by omega
      exact hy
/-- A slice, read: its elements lie in stable cells. -/
theorem vr_slice {W : World} {α : Type} (av : α → AV) (ev : α → Value) (sz : Nat) (hvr : ∀ x, VR (allS W) [] (av x) (ev x)) (hsz : ∀ x, (ev x).cells.size = sz) {a : Addr} {len cap : Nat} (hle : len ≤ cap) (hs : a.spot = none)
    (h : ∀ i, i < len → ∃ x, ∀ j v, (ev x).cells[j]? = some v → W.cell? ⟨a.block, a.off + i * sz + j, none⟩ = some v) : ∃ l : List α, VR (allS W) [] (.sl (l.map av)) (.slice (some a) len cap) := by
  obtain ⟨l, h1, h2⟩ := list_of _ len h
  refine ⟨l, ?_⟩
  simp only [VR, List.length_map]
  refine ⟨some a, cap, by rw [h1], by omega, (fun e => by cases e), fun q hq => ?_⟩
  cases hq
  refine ⟨hs, sz, .of_get fun i e he => ?_⟩
  rw [List.getElem?_map, Option.map_eq_some_iff] at he
  obtain ⟨x, hx, rfl⟩ := he
  refine ⟨ev x, hvr x, hsz x, fun j v hv => ?_⟩
  exact h2 i x hx j v (by rw [← Array.getElem?_toList]; exact hv)
end Go.Av
